/-
  Pure twins of the Go functions, written by program.
-/
import Derived.Test.YtojcklkcjnnkaaaDoorPure
namespace Go.Proofs.YtojcklkcjnnkaaaDoor
namespace V
structure T_wirelesslaw39_Step where
  Key : Int
  Value : (List Int)
  Cut : Int

structure T_api_Flash where
  Banks : ((List Int) × (List Int))

structure T_api_Item where
  Key : Int
  Value : (List Int)

structure T_api_Store where
  Flash : T_api_Flash
  Bank : Int
  Count : Int
  End : Int
  Items : (List T_api_Item)

structure T_api_Field where
  Size : Int
  Value : Int

structure T_api_Write where
  Bank : Int
  Erase : Bool
  Offset : Int
  Bytes : (List Int)

def flash_fits (F : Nat) (size_1 : Int) : Option (Bool) :=
  some ((decide (size_1 ≥ 64)) && (decide (size_1 ≤ 65536)))

def flash_erased_j1 (F : Nat) (l_3 : (List Int)) : Option ((List Int)) :=
  some l_3

def flash_erased_l1 (F : Nat) (l_2 : (List Int)) (l_4 : (List Int)) (x_5 : Int) : Option (Out ((List Int) × Int) ((List Int))) :=
  if (decide (x_5 < (len l_2))) = true then
    (idx l_4 x_5).bind fun x_6 =>
    (upd l_4 x_5 255).bind fun l_7 =>
    some (.next (l_7, w64 (x_5 + 1)))
  else
    some (.done (l_4))

def flash_erased (F : Nat) (size_1 : Int) : Option ((List Int)) :=
  (mk 1 0 size_1).bind fun l_2 =>
  (iter (fun s => flash_erased_l1 F l_2 s.1 s.2) F (l_2, 0)).bind fun o =>
  flash_erased_j1 F o

def flash_Blank (F : Nat) (size_1 : Int) : Option (T_api_Flash × Int) :=
  (flash_fits F size_1).bind fun x_2 =>
  if (!x_2) = true then
    some ((T_api_Flash.mk ([], [])), 5)
  else
    (flash_erased F size_1).bind fun x_3 =>
    (flash_erased F size_1).bind fun x_4 =>
    some ((T_api_Flash.mk (x_3, x_4)), 0)

def octets_Join_j1 (F : Nat) (l_2 : (List Int)) : Option ((List Int)) :=
  some l_2

def octets_Join_l1 (F : Nat) (parts_1 : (List (List Int))) (l_3 : (List Int)) (x_4 : Int) : Option (Out ((List Int) × Int) ((List Int))) :=
  if (decide (x_4 < (len parts_1))) = true then
    (idx parts_1 x_4).bind fun x_5 =>
    (app 1 l_3 x_5).bind fun l_6 =>
    some (.next (l_6, w64 (x_4 + 1)))
  else
    some (.done (l_3))

def octets_Join (F : Nat) (parts_1 : (List (List Int))) : Option ((List Int)) :=
  (iter (fun s => octets_Join_l1 F parts_1 s.1 s.2) F ([], 0)).bind fun o =>
  octets_Join_j1 F o

def flash_copied_j1 (F : Nat) (c_4 : T_api_Flash) : Option (T_api_Flash) :=
  some c_4

def flash_copied (F : Nat) (f_1 : T_api_Flash) : Option (T_api_Flash) :=
  (octets_Join F [f_1.Banks.1]).bind fun x_327 =>
  (octets_Join F [f_1.Banks.2]).bind fun x_727 =>
  flash_copied_j1 F (T_api_Flash.mk (x_327, x_727))

def flash_value_j1 (F : Nat) (x_2 : Int) : Option (Int) :=
  some x_2

def flash_value_l1 (F : Nat) (b_1 : (List Int)) (x_3 : Int) (x_4 : Int) : Option (Out (Int × Int) (Int)) :=
  if (decide (x_4 ≥ 0)) = true then
    (idx b_1 x_4).bind fun x_5 =>
    some (.next (ior .i64 (shlp .i64 x_3 8) (w64 x_5), w64 (x_4 - 1)))
  else
    some (.done (x_3))

def flash_value (F : Nat) (b_1 : (List Int)) : Option (Int) :=
  (iter (fun s => flash_value_l1 F b_1 s.1 s.2) F (0, w64 ((len b_1) - 1))).bind fun o =>
  flash_value_j1 F o

def octets_sized (F : Nat) (n_1 : Int) : Option (Bool) :=
  some ((decide (n_1 ≥ 1)) && (decide (n_1 ≤ 8)))

def octets_Put_j1 (F : Nat) (l_2 : (List Int)) : Option ((List Int) × Int) :=
  some (l_2, 0)

def octets_Put_j2 (F : Nat) (x_4 : Int) (l_5 : (List Int)) : Option (Out ((List Int) × Int) (Sum ((List Int)) ((List Int) × Int))) :=
  some (.next (l_5, w64 (x_4 + 1)))

def octets_Put_l2 (F : Nat) (x_6 : T_api_Field) (l_10 : (List Int)) (x_11 : Int) : Option (Out ((List Int) × Int) ((List Int))) :=
  if (decide (x_11 < x_6.Size)) = true then
    (ishr .u64 x_6.Value (w64 (8 * x_11))).bind fun x_12 =>
    (app 1 l_10 [wu8 x_12]).bind fun l_13 =>
    some (.next (l_13, w64 (x_11 + 1)))
  else
    some (.done (l_10))

def octets_Put_l1 (F : Nat) (fields_1 : (List T_api_Field)) (l_3 : (List Int)) (x_4 : Int) : Option (Out ((List Int) × Int) (Sum ((List Int)) ((List Int) × Int))) :=
  if (decide (x_4 < (len fields_1))) = true then
    (idx fields_1 x_4).bind fun x_6 =>
    (octets_sized F x_6.Size).bind fun x_7 =>
    (if (!x_7) = true then
      some (true)
    else
      if (decide (x_6.Size < 8)) = true then
        (ishr .u64 x_6.Value (w64 (8 * x_6.Size))).bind fun x_16 =>
        some ((x_16 != 0))
      else
        some (false)).bind fun z_9 =>
    if z_9 = true then
      some (.done (.inr ([], 5)))
    else
      (iter (fun s => octets_Put_l2 F x_6 s.1 s.2) F (l_3, 0)).bind fun o =>
      octets_Put_j2 F x_4 o
  else
    some (.done (.inl (l_3)))

def octets_Put (F : Nat) (fields_1 : (List T_api_Field)) : Option ((List Int) × Int) :=
  (iter (fun s => octets_Put_l1 F fields_1 s.1 s.2) F ([], 0)).bind fun o =>
  match o with
  | .inl u => octets_Put_j1 F u
  | .inr u => some u

def flash_number (F : Nat) (size_1 : Int) (n_2 : Int) : Option ((List Int)) :=
  (octets_Put F [(T_api_Field.mk size_1 n_2)]).bind fun x_3 =>
  some x_3.1

def crc_feed (F : Nat) (register_1 : Int) (x_2 : Int) : Option (Int) :=
  (idx [0, 1788928, 3577856, 3003392, 7155712, 7764992, 6006784, 4252672, 14311424, 12659712, 15529984, 16233472, 12013568, 11279360, 8505344, 10126336] (iand .u32 (ixor .u32 register_1 (wu32 x_2)) 15)).bind fun x_3 =>
  (idx [0, 1788928, 3577856, 3003392, 7155712, 7764992, 6006784, 4252672, 14311424, 12659712, 15529984, 16233472, 12013568, 11279360, 8505344, 10126336] (iand .u32 (ixor .u32 (ixor .u32 (shrp register_1 4) x_3) (wu32 (shrp x_2 4))) 15)).bind fun x_4 =>
  some (ixor .u32 (shrp (ixor .u32 (shrp register_1 4) x_3) 4) x_4)

def crc_Sum_j1 (F : Nat) (x_3 : Int) : Option (Int) :=
  some x_3

def crc_Sum_l1 (F : Nat) (b_2 : (List Int)) (x_4 : Int) (x_5 : Int) : Option (Out (Int × Int) (Int)) :=
  if (decide (x_5 < (len b_2))) = true then
    (idx b_2 x_5).bind fun x_6 =>
    (crc_feed F x_4 x_6).bind fun x_7 =>
    some (.next (x_7, w64 (x_5 + 1)))
  else
    some (.done (x_4))

def crc_Sum (F : Nat) (init_1 : Int) (b_2 : (List Int)) : Option (Int) :=
  (iter (fun s => crc_Sum_l1 F b_2 s.1 s.2) F (iand .u32 init_1 16777215, 0)).bind fun o =>
  crc_Sum_j1 F o

def slices_Clone_byte_byte (F : Nat) (s_1 : (List Int)) : Option ((List Int)) :=
  (app 1 ([] : (List Int)) s_1).bind fun l_2 =>
  some l_2

def crc_Append (F : Nat) (init_1 : Int) (b_2 : (List Int)) : Option ((List Int)) :=
  (crc_Sum F init_1 b_2).bind fun x_3 =>
  (slices_Clone_byte_byte F b_2).bind fun x_4 =>
  (app 1 x_4 [wu8 x_3, wu8 (shrp x_3 8), wu8 (shrp x_3 16)]).bind fun l_5 =>
  some l_5

def flash_sealed (F : Nat) (b_1 : (List Int)) : Option ((List Int)) :=
  (crc_Append F 0 b_1).bind fun x_2 =>
  (octets_Join F [x_2, [0]]).bind fun x_3 =>
  some x_3

def flash_header (F : Nat) (count_1 : Int) : Option ((List Int)) :=
  (flash_number F 4 (wu64 count_1)).bind fun x_2 =>
  (octets_Join F [[66, 75], x_2]).bind fun x_3 =>
  (flash_sealed F x_3).bind fun x_4 =>
  some x_4

def slices_Equal_byte_byte_j1 (F : Nat) : Option (Bool) :=
  some true

def slices_Equal_byte_byte_j2 (F : Nat) (x_3 : Int) (z_4 : Bool) : Option (Out (Int) (Sum (Unit) (Bool))) :=
  if z_4 = true then
    some (.done (.inr false))
  else
    some (.next (w64 (x_3 + 1)))

def slices_Equal_byte_byte_l1 (F : Nat) (s_1 : (List Int)) (s_2 : (List Int)) (x_3 : Int) : Option (Out (Int) (Sum (Unit) (Bool))) :=
  if (decide (x_3 < (len s_1))) = true then
    (idx s_1 x_3).bind fun x_5 =>
    (idx s_2 x_3).bind fun x_6 =>
    slices_Equal_byte_byte_j2 F x_3 (x_5 != x_6)
  else
    some (.done (.inl ()))

def slices_Equal_byte_byte (F : Nat) (s_1 : (List Int)) (s_2 : (List Int)) : Option (Bool) :=
  if ((len s_1) != (len s_2)) = true then
    some false
  else
    (iter (fun s => slices_Equal_byte_byte_l1 F s_1 s_2 s) F (0)).bind fun o =>
    match o with
    | .inl u => slices_Equal_byte_byte_j1 F
    | .inr u => some u

def flash_count_j1 (F : Nat) (x_3 : Int) (z_4 : Bool) : Option (Int) :=
  if z_4 = true then
    some (-1)
  else
    some x_3

def flash_count (F : Nat) (bank_1 : (List Int)) : Option (Int) :=
  if (decide ((len bank_1) < 10)) = true then
    some (-1)
  else
    (sub bank_1 2 6).bind fun l_2 =>
    (flash_value F l_2).bind fun x_3 =>
    (sub bank_1 0 10).bind fun l_7 =>
    (flash_header F x_3).bind fun x_8 =>
    (slices_Equal_byte_byte F x_8 l_7).bind fun x_9 =>
    flash_count_j1 F x_3 (!x_9)

def flash_need (F : Nat) (ok_1 : Bool) : Option (Unit) :=
  if (!ok_1) = true then
    none
  else
    some ()

def flash_record (F : Nat) (key_1 : Int) (value_2 : (List Int)) : Option ((List Int)) :=
  (flash_number F 2 (wu64 (len value_2))).bind fun x_3 =>
  (flash_number F 2 (wu64 key_1)).bind fun x_4 =>
  (octets_Join F [x_3, x_4, value_2]).bind fun x_5 =>
  (flash_sealed F x_5).bind fun x_6 =>
  some x_6

def flash_read_j2 (F : Nat) (at_2 : Int) (x_5 : Int) (c_9 : T_api_Item) : Option (T_api_Item × Int) :=
  some (c_9, w64 ((w64 (at_2 + 8)) + x_5))

def flash_read_j1 (F : Nat) (bank_1 : (List Int)) (at_2 : Int) (x_5 : Int) (c_9 : T_api_Item) : Option (T_api_Item × Int) :=
  (sub bank_1 at_2 (w64 ((w64 (at_2 + 8)) + x_5))).bind fun l_12 =>
  (flash_record F c_9.Key c_9.Value).bind fun x_13 =>
  (slices_Equal_byte_byte F x_13 l_12).bind fun x_14 =>
  (flash_need F x_14).bind fun x_15 =>
  flash_read_j2 F at_2 x_5 c_9

def flash_read (F : Nat) (bank_1 : (List Int)) (at_2 : Int) : Option (T_api_Item × Int) :=
  (flash_need F (decide ((w64 (at_2 + 8)) ≤ (len bank_1)))).bind fun x_3 =>
  (sub bank_1 at_2 (w64 (at_2 + 2))).bind fun l_4 =>
  (flash_value F l_4).bind fun x_5 =>
  (flash_need F ((decide (x_5 ≤ 1024)) && (decide ((w64 ((w64 (at_2 + 8)) + x_5)) ≤ (len bank_1))))).bind fun x_6 =>
  (sub bank_1 (w64 (at_2 + 2)) (w64 (at_2 + 4))).bind fun l_18 =>
  (sub bank_1 (w64 (at_2 + 4)) (w64 ((w64 (at_2 + 4)) + x_5))).bind fun l_19 =>
  (flash_value F l_18).bind fun x_500 =>
  (octets_Join F [l_19]).bind fun x_1380 =>
  flash_read_j1 F bank_1 at_2 x_5 (T_api_Item.mk (wu16 x_500) x_1380)

def flash_readP_j2 (F : Nat) (at_2 : Int) (x_6 : Int) (c_11 : T_api_Item) : Option (Option (T_api_Item × Int)) :=
  some (some (c_11, w64 ((w64 (at_2 + 8)) + x_6)))

def flash_readP_j1 (F : Nat) (bank_1 : (List Int)) (at_2 : Int) (x_6 : Int) (c_11 : T_api_Item) : Option (Option (T_api_Item × Int)) :=
  (sub bank_1 at_2 (w64 ((w64 (at_2 + 8)) + x_6))).bind fun l_14 =>
  (flash_record F c_11.Key c_11.Value).bind fun x_15 =>
  (slices_Equal_byte_byte F x_15 l_14).bind fun x_16 =>
  if x_16 = true then
    (flash_need F x_16).bind fun x_18 =>
    flash_readP_j2 F at_2 x_6 c_11
  else
    some none

def flash_readP (F : Nat) (bank_1 : (List Int)) (at_2 : Int) : Option (Option (T_api_Item × Int)) :=
  if (decide ((w64 (at_2 + 8)) ≤ (len bank_1))) = true then
    (flash_need F (decide ((w64 (at_2 + 8)) ≤ (len bank_1)))).bind fun x_4 =>
    (sub bank_1 at_2 (w64 (at_2 + 2))).bind fun l_5 =>
    (flash_value F l_5).bind fun x_6 =>
    if ((decide (x_6 ≤ 1024)) && (decide ((w64 ((w64 (at_2 + 8)) + x_6)) ≤ (len bank_1)))) = true then
      (flash_need F ((decide (x_6 ≤ 1024)) && (decide ((w64 ((w64 (at_2 + 8)) + x_6)) ≤ (len bank_1))))).bind fun x_8 =>
      (sub bank_1 (w64 (at_2 + 2)) (w64 (at_2 + 4))).bind fun l_21 =>
      (sub bank_1 (w64 (at_2 + 4)) (w64 ((w64 (at_2 + 4)) + x_6))).bind fun l_22 =>
      (flash_value F l_21).bind fun x_503 =>
      (octets_Join F [l_22]).bind fun x_1383 =>
      flash_readP_j1 F bank_1 at_2 x_6 (T_api_Item.mk (wu16 x_503) x_1383)
    else
      some none
  else
    some none

def cmp_isNaN_uint16 (F : Nat) (x_1 : Int) : Option (Bool) :=
  some (x_1 != x_1)

def cmp_Compare_uint16 (F : Nat) (x_1 : Int) (y_2 : Int) : Option (Int) :=
  (cmp_isNaN_uint16 F x_1).bind fun x_3 =>
  (cmp_isNaN_uint16 F y_2).bind fun x_4 =>
  if x_3 = true then
    if x_4 = true then
      some 0
    else
      some (-1)
  else
    if x_4 = true then
      some 1
    else
      if (decide (x_1 < y_2)) = true then
        some (-1)
      else
        if (decide (x_1 > y_2)) = true then
          some 1
        else
          some 0

def flash_place_1 (F : Nat) (i_1 : T_api_Item) (k_2 : Int) : Option (Int) :=
  (cmp_Compare_uint16 F i_1.Key k_2).bind fun x_3 =>
  some x_3

def slices_BinarySearchFunc_api_Item_api_Item_uint16_at56_j1 (F : Nat) (x_1 : (List T_api_Item)) (target_2 : Int) (x_3 : Int) : Option (Int × Bool) :=
  (if (decide (x_3 < (len x_1))) = true then
    (idx x_1 x_3).bind fun x_7 =>
    (flash_place_1 F x_7 target_2).bind fun x_8 =>
    some ((x_8 == 0))
  else
    some (false)).bind fun z_5 =>
  some (x_3, z_5)

def slices_BinarySearchFunc_api_Item_api_Item_uint16_at56_l1 (F : Nat) (x_1 : (List T_api_Item)) (target_2 : Int) (x_9 : Int) (x_10 : Int) : Option (Out (Int × Int) (Int)) :=
  if (decide (x_9 < x_10)) = true then
    (idx x_1 (w64 (shrp (wu64 (w64 (x_9 + x_10))) 1))).bind fun x_11 =>
    (flash_place_1 F x_11 target_2).bind fun x_12 =>
    if (decide (x_12 < 0)) = true then
      some (.next (w64 ((w64 (shrp (wu64 (w64 (x_9 + x_10))) 1)) + 1), x_10))
    else
      some (.next (x_9, w64 (shrp (wu64 (w64 (x_9 + x_10))) 1)))
  else
    some (.done (x_9))

def slices_BinarySearchFunc_api_Item_api_Item_uint16_at56 (F : Nat) (x_1 : (List T_api_Item)) (target_2 : Int) : Option (Int × Bool) :=
  (iter (fun s => slices_BinarySearchFunc_api_Item_api_Item_uint16_at56_l1 F x_1 target_2 s.1 s.2) F (0, len x_1)).bind fun o =>
  slices_BinarySearchFunc_api_Item_api_Item_uint16_at56_j1 F x_1 target_2 o

def flash_place (F : Nat) (l_1 : (List T_api_Item)) (key_2 : Int) : Option (Int × Bool) :=
  (slices_BinarySearchFunc_api_Item_api_Item_uint16_at56 F l_1 key_2).bind fun x_3 =>
  some (x_3.1, x_3.2)

def slices_Delete_api_Item_api_Item (F : Nat) (s_1 : (List T_api_Item)) (i_2 : Int) (j_3 : Int) : Option ((List T_api_Item)) :=
  if 0 ≤ i_2 ∧ i_2 ≤ j_3 ∧ j_3 ≤ (s_1.length : Int) then
    some (s_1.take i_2.toNat ++ s_1.drop j_3.toNat)
  else
    none

def slices_Insert_api_Item_api_Item (F : Nat) (s_1 : (List T_api_Item)) (i_2 : Int) (v_3 : (List T_api_Item)) : Option ((List T_api_Item)) :=
  if 0 ≤ i_2 ∧ i_2 ≤ (s_1.length : Int) ∧ v_3.length = 1 ∧ (s_1.length + 1) * 32 ≤ 140737488355328 then
    some (s_1.take i_2.toNat ++ v_3 ++ s_1.drop i_2.toNat)
  else
    none

def flash_set (F : Nat) (l_1 : (List T_api_Item)) (r_2 : T_api_Item) : Option ((List T_api_Item)) :=
  (flash_place F l_1 r_2.Key).bind fun x_3 =>
  if (((len r_2.Value) == 0) && x_3.2) = true then
    (slices_Delete_api_Item_api_Item F l_1 x_3.1 (w64 (x_3.1 + 1))).bind fun x_4 =>
    some x_4
  else
    if ((len r_2.Value) == 0) = true then
      some l_1
    else
      if x_3.2 = true then
        (idx l_1 x_3.1).bind fun x_5 =>
        (upd l_1 x_3.1 r_2).bind fun l_6 =>
        some l_6
      else
        (slices_Insert_api_Item_api_Item F l_1 x_3.1 [r_2]).bind fun x_7 =>
        some x_7

def flash_contents_l1 (F : Nat) (bank_1 : List Int) (l : List T_api_Item) (e : Int) : Option (Out ((List T_api_Item) × Int) ((List T_api_Item) × Int)) :=
  (flash_readP F bank_1 e).bind fun q =>
  match q with
  | none => some (.done (l, e))
  | some x => (flash_set F l x.1).bind fun l2 => some (.next (l2, x.2))
def flash_contents (F : Nat) (bank_1 : List Int) : Option ((List T_api_Item) × Int) :=
  iter (fun s => flash_contents_l1 F bank_1 s.1 s.2) F ([], 10)

def flash_Mount_j4 (F : Nat) (x_4 : T_api_Flash) (x_5 : Int) (x_7 : Int) (x_9 : (List T_api_Item) × Int) (x_10 : Int) : Option (T_api_Store × Int) :=
  some ((T_api_Store.mk x_4 x_7 x_5 x_10 x_9.1), 0)

def flash_Mount_l1 (F : Nat) (f_1 : T_api_Flash) (x_9 : (List T_api_Item) × Int) (l_11 : (List Int)) (x_12 : Int) : Option (Out (Int) (Int)) :=
  if (decide (x_12 < (len l_11))) = true then
    (idx l_11 x_12).bind fun x_13 =>
    if (x_13 != 255) = true then
      some (.done (len f_1.Banks.1))
    else
      some (.next (w64 (x_12 + 1)))
  else
    some (.done (x_9.2))

def flash_Mount_j5 (F : Nat) (x_4 : T_api_Flash) (x_6 : Int) (x_7 : Int) (x_15 : (List T_api_Item) × Int) (x_16 : Int) : Option (T_api_Store × Int) :=
  some ((T_api_Store.mk x_4 x_7 x_6 x_16 x_15.1), 0)

def flash_Mount_l2 (F : Nat) (f_1 : T_api_Flash) (x_15 : (List T_api_Item) × Int) (l_17 : (List Int)) (x_18 : Int) : Option (Out (Int) (Int)) :=
  if (decide (x_18 < (len l_17))) = true then
    (idx l_17 x_18).bind fun x_19 =>
    if (x_19 != 255) = true then
      some (.done (len f_1.Banks.1))
    else
      some (.next (w64 (x_18 + 1)))
  else
    some (.done (x_15.2))

def flash_Mount_j3 (F : Nat) (f_1 : T_api_Flash) (x_4 : T_api_Flash) (x_5 : Int) (x_6 : Int) (x_7 : Int) : Option (T_api_Store × Int) :=
  if (x_7 == 0) = true then
    (flash_contents F x_4.Banks.1).bind fun x_9 =>
    (sub x_4.Banks.1 x_9.2 (len x_4.Banks.1)).bind fun l_11 =>
    (iter (fun s => flash_Mount_l1 F f_1 x_9 l_11 s) F (0)).bind fun o =>
    flash_Mount_j4 F x_4 x_5 x_7 x_9 o
  else
    if (x_7 == 1) = true then
      (flash_contents F x_4.Banks.2).bind fun x_15 =>
      (sub x_4.Banks.2 x_15.2 (len x_4.Banks.2)).bind fun l_17 =>
      (iter (fun s => flash_Mount_l2 F f_1 x_15 l_17 s) F (0)).bind fun o =>
      flash_Mount_j5 F x_4 x_6 x_7 x_15 o
    else
      none

def flash_Mount_j2 (F : Nat) (f_1 : T_api_Flash) (x_4 : T_api_Flash) (x_5 : Int) (x_6 : Int) (x_7 : Int) : Option (T_api_Store × Int) :=
  if (x_7 == 0) = true then
    if (decide (x_5 < 0)) = true then
      some ((T_api_Store.mk x_4 x_7 0 (len f_1.Banks.1) []), 0)
    else
      flash_Mount_j3 F f_1 x_4 x_5 x_6 x_7
  else
    if (x_7 == 1) = true then
      if (decide (x_6 < 0)) = true then
        some ((T_api_Store.mk x_4 x_7 0 (len f_1.Banks.1) []), 0)
      else
        flash_Mount_j3 F f_1 x_4 x_5 x_6 x_7
    else
      none

def flash_Mount_j1 (F : Nat) (f_1 : T_api_Flash) (x_4 : T_api_Flash) (x_5 : Int) (x_6 : Int) : Option (T_api_Store × Int) :=
  if (decide (x_6 > x_5)) = true then
    flash_Mount_j2 F f_1 x_4 x_5 x_6 1
  else
    flash_Mount_j2 F f_1 x_4 x_5 x_6 0

def flash_Mount (F : Nat) (f_1 : T_api_Flash) : Option (T_api_Store × Int) :=
  (if ((len f_1.Banks.2) != (len f_1.Banks.1)) = true then
    some (true)
  else
    (flash_fits F (len f_1.Banks.1)).bind fun x_985 =>
    some ((!x_985))).bind fun z_3 =>
  if z_3 = true then
    some ((T_api_Store.mk (T_api_Flash.mk ([], [])) 0 0 0 []), 5)
  else
    (flash_copied F f_1).bind fun x_4 =>
    (flash_count F f_1.Banks.1).bind fun x_264 =>
    (flash_count F f_1.Banks.2).bind fun x_584 =>
    flash_Mount_j1 F f_1 x_4 x_264 x_584

def flash_Get (F : Nat) (s_1 : T_api_Store) (key_2 : Int) : Option ((List Int) × Bool) :=
  (flash_place F s_1.Items key_2).bind fun x_3 =>
  if (!x_3.2) = true then
    some ([], false)
  else
    (idx s_1.Items x_3.1).bind fun x_4 =>
    (octets_Join F [x_4.Value]).bind fun x_5 =>
    some (x_5, true)

def flash_size (F : Nat) (s_1 : T_api_Store) : Option (Int) :=
  some (len s_1.Flash.Banks.1)

def flash_Free_j1 (F : Nat) (x_2 : Int) : Option (Int) :=
  some x_2

def flash_Free (F : Nat) (s_1 : T_api_Store) : Option (Int) :=
  (flash_size F s_1).bind fun x_5 =>
  flash_Free_j1 F (w64 (x_5 - s_1.End))

def slices_Clone_api_Item_api_Item (F : Nat) (s_1 : (List T_api_Item)) : Option ((List T_api_Item)) :=
  (app 32 ([] : (List T_api_Item)) s_1).bind fun l_2 =>
  some l_2

def flash_Plan_j1 (F : Nat) (s_1 : T_api_Store) (l_9 : (List Int)) : Option ((List T_api_Write) × Int) :=
  (flash_size F s_1).bind fun x_10 =>
  if ((decide ((w64 (10 + (len l_9))) > x_10)) || (decide (s_1.Count ≥ 4294967295))) = true then
    some ([], 8)
  else
    (flash_header F (w64 (s_1.Count + 1))).bind fun x_11 =>
    some ([(T_api_Write.mk (w64 (1 - s_1.Bank)) true 0 []), (T_api_Write.mk (w64 (1 - s_1.Bank)) false 10 l_9), (T_api_Write.mk (w64 (1 - s_1.Bank)) false 0 x_11)], 0)

def flash_Plan_l1 (F : Nat) (x_13 : (List T_api_Item)) (l_14 : (List Int)) (x_15 : Int) : Option (Out ((List Int) × Int) ((List Int))) :=
  if (decide (x_15 < (len x_13))) = true then
    (idx x_13 x_15).bind fun x_16 =>
    (flash_record F x_16.Key x_16.Value).bind fun x_17 =>
    (app 1 l_14 x_17).bind fun l_18 =>
    some (.next (l_18, w64 (x_15 + 1)))
  else
    some (.done (l_14))

def flash_Plan (F : Nat) (s_1 : T_api_Store) (key_2 : Int) (value_3 : (List Int)) : Option ((List T_api_Write) × Int) :=
  if (decide ((len value_3) > 1024)) = true then
    some ([], 4)
  else
    (flash_Get F s_1 key_2).bind fun x_4 =>
    (if (x_4.2 == (decide ((len value_3) > 0))) = true then
      (slices_Equal_byte_byte F x_4.1 value_3).bind fun x_20 =>
      some (x_20)
    else
      some (false)).bind fun z_6 =>
    if z_6 = true then
      some ([], 0)
    else
      (flash_record F key_2 value_3).bind fun x_7 =>
      (flash_Free F s_1).bind fun x_8 =>
      if (decide ((len x_7) ≤ x_8)) = true then
        some ([(T_api_Write.mk s_1.Bank false s_1.End x_7)], 0)
      else
        (slices_Clone_api_Item_api_Item F s_1.Items).bind fun x_12 =>
        (flash_set F x_12 (T_api_Item.mk key_2 value_3)).bind fun x_13 =>
        (iter (fun s => flash_Plan_l1 F x_13 s.1 s.2) F ([], 0)).bind fun o =>
        flash_Plan_j1 F s_1 o

def flash_kept_j1 (F : Nat) (s_1 : T_api_Store) (x_2 : T_api_Flash) (l_3 : (List T_api_Item)) : Option (T_api_Store) :=
  some ({ s_1 with Flash := x_2, Items := l_3 })

def flash_kept_l1 (F : Nat) (s_1 : T_api_Store) (l_4 : (List T_api_Item)) (x_5 : Int) : Option (Out ((List T_api_Item) × Int) ((List T_api_Item))) :=
  if (decide (x_5 < (len s_1.Items))) = true then
    (idx s_1.Items x_5).bind fun x_6 =>
    (octets_Join F [x_6.Value]).bind fun x_9 =>
    (app 32 l_4 [{ x_6 with Value := x_9 }]).bind fun l_10 =>
    some (.next (l_10, w64 (x_5 + 1)))
  else
    some (.done (l_4))

def flash_kept (F : Nat) (s_1 : T_api_Store) : Option (T_api_Store) :=
  (flash_copied F s_1.Flash).bind fun x_2 =>
  (iter (fun s => flash_kept_l1 F s_1 s.1 s.2) F ([], 0)).bind fun o =>
  flash_kept_j1 F s_1 x_2 o

def flash_Apply_j3 (F : Nat) (x_4 : T_api_Flash) (l_8 : (List Int)) : Option (T_api_Flash) :=
  some (T_api_Flash.mk (l_8, x_4.Banks.2))

def flash_Apply_j4 (F : Nat) (x_10 : Int) (l_11 : (List Int)) : Option (Out ((List Int) × Int) ((List Int))) :=
  some (.next (l_11, w64 (x_10 + 1)))

def flash_Apply_l1 (F : Nat) (w_2 : T_api_Write) (x_7 : Int) (l_9 : (List Int)) (x_10 : Int) : Option (Out ((List Int) × Int) ((List Int))) :=
  if (decide (x_10 < x_7)) = true then
    if w_2.Erase = true then
      (idx l_9 x_10).bind fun x_12 =>
      (upd l_9 x_10 255).bind fun l_13 =>
      flash_Apply_j4 F x_10 l_13
    else
      if (((decide (w_2.Offset < (len l_9))) && (decide ((w64 (w_2.Offset + x_10)) ≥ 0))) && (decide ((w64 (w_2.Offset + x_10)) < (len l_9)))) = true then
        (idx w_2.Bytes x_10).bind fun x_14 =>
        (idx l_9 (w64 (w_2.Offset + x_10))).bind fun x_17 =>
        (idx l_9 (w64 (w_2.Offset + x_10))).bind fun x_18 =>
        (idx l_9 (w64 (w_2.Offset + x_10))).bind fun x_19 =>
        (upd l_9 (w64 (w_2.Offset + x_10)) (iand .u8 x_18 x_14)).bind fun l_20 =>
        flash_Apply_j4 F x_10 l_20
      else
        flash_Apply_j4 F x_10 l_9
  else
    some (.done (l_9))

def flash_Apply_j2 (F : Nat) (w_2 : T_api_Write) (x_4 : T_api_Flash) (x_7 : Int) : Option (T_api_Flash) :=
  (iter (fun s => flash_Apply_l1 F w_2 x_7 s.1 s.2) F (x_4.Banks.1, 0)).bind fun o =>
  flash_Apply_j3 F x_4 o

def flash_Apply_j1 (F : Nat) (w_2 : T_api_Write) (n_3 : Int) (x_4 : T_api_Flash) (x_6 : Int) : Option (T_api_Flash) :=
  if ((decide (n_3 < 0)) || (decide (n_3 > x_6))) = true then
    flash_Apply_j2 F w_2 x_4 x_6
  else
    flash_Apply_j2 F w_2 x_4 n_3

def flash_Apply_j7 (F : Nat) (x_4 : T_api_Flash) (l_24 : (List Int)) : Option (T_api_Flash) :=
  some (T_api_Flash.mk (x_4.Banks.1, l_24))

def flash_Apply_j8 (F : Nat) (x_26 : Int) (l_27 : (List Int)) : Option (Out ((List Int) × Int) ((List Int))) :=
  some (.next (l_27, w64 (x_26 + 1)))

def flash_Apply_l2 (F : Nat) (w_2 : T_api_Write) (x_23 : Int) (l_25 : (List Int)) (x_26 : Int) : Option (Out ((List Int) × Int) ((List Int))) :=
  if (decide (x_26 < x_23)) = true then
    if w_2.Erase = true then
      (idx l_25 x_26).bind fun x_28 =>
      (upd l_25 x_26 255).bind fun l_29 =>
      flash_Apply_j8 F x_26 l_29
    else
      if (((decide (w_2.Offset < (len l_25))) && (decide ((w64 (w_2.Offset + x_26)) ≥ 0))) && (decide ((w64 (w_2.Offset + x_26)) < (len l_25)))) = true then
        (idx w_2.Bytes x_26).bind fun x_30 =>
        (idx l_25 (w64 (w_2.Offset + x_26))).bind fun x_33 =>
        (idx l_25 (w64 (w_2.Offset + x_26))).bind fun x_34 =>
        (idx l_25 (w64 (w_2.Offset + x_26))).bind fun x_35 =>
        (upd l_25 (w64 (w_2.Offset + x_26)) (iand .u8 x_34 x_30)).bind fun l_36 =>
        flash_Apply_j8 F x_26 l_36
      else
        flash_Apply_j8 F x_26 l_25
  else
    some (.done (l_25))

def flash_Apply_j6 (F : Nat) (w_2 : T_api_Write) (x_4 : T_api_Flash) (x_23 : Int) : Option (T_api_Flash) :=
  (iter (fun s => flash_Apply_l2 F w_2 x_23 s.1 s.2) F (x_4.Banks.2, 0)).bind fun o =>
  flash_Apply_j7 F x_4 o

def flash_Apply_j5 (F : Nat) (w_2 : T_api_Write) (n_3 : Int) (x_4 : T_api_Flash) (x_22 : Int) : Option (T_api_Flash) :=
  if ((decide (n_3 < 0)) || (decide (n_3 > x_22))) = true then
    flash_Apply_j6 F w_2 x_4 x_22
  else
    flash_Apply_j6 F w_2 x_4 n_3

def flash_Apply (F : Nat) (f_1 : T_api_Flash) (w_2 : T_api_Write) (n_3 : Int) : Option (T_api_Flash) :=
  (flash_copied F f_1).bind fun x_4 =>
  if ((w_2.Bank != 0) && (w_2.Bank != 1)) = true then
    some x_4
  else
    if (w_2.Bank == 0) = true then
      if w_2.Erase = true then
        flash_Apply_j1 F w_2 n_3 x_4 (len x_4.Banks.1)
      else
        flash_Apply_j1 F w_2 n_3 x_4 (len w_2.Bytes)
    else
      if (w_2.Bank == 1) = true then
        if w_2.Erase = true then
          flash_Apply_j5 F w_2 n_3 x_4 (len x_4.Banks.2)
        else
          flash_Apply_j5 F w_2 n_3 x_4 (len w_2.Bytes)
      else
        none

def flash_Put_j1 (F : Nat) (c_8 : T_api_Flash) : Option (T_api_Store × Int) :=
  (flash_Mount F c_8).bind fun x_9 =>
  some (x_9.1, x_9.2)

def flash_Put_l1 (F : Nat) (x_4 : (List T_api_Write) × Int) (c_12 : T_api_Flash) (x_13 : Int) : Option (Out (T_api_Flash × Int) (T_api_Flash)) :=
  if (decide (x_13 < (len x_4.1))) = true then
    (idx x_4.1 x_13).bind fun x_14 =>
    (flash_Apply F c_12 x_14 (-1)).bind fun x_15 =>
    some (.next (x_15, w64 (x_13 + 1)))
  else
    some (.done (c_12))

def flash_Put (F : Nat) (s_1 : T_api_Store) (key_2 : Int) (value_3 : (List Int)) : Option (T_api_Store × Int) :=
  (flash_Plan F s_1 key_2 value_3).bind fun x_4 =>
  if ((x_4.2 != 0) || ((len x_4.1) == 0)) = true then
    (flash_kept F s_1).bind fun x_5 =>
    some (x_5, x_4.2)
  else
    (iter (fun s => flash_Put_l1 F x_4 s.1 s.2) F (s_1.Flash, 0)).bind fun o =>
    flash_Put_j1 F o

def wirelesslaw39_lives (F : Nat) : Option (Bool) :=
  (flash_Blank F 64).bind fun x_1 =>
  (flash_Mount F x_1.1).bind fun x_2 =>
  (flash_Put F x_2.1 5 [7]).bind fun x_3 =>
  (flash_Get F x_3.1 5).bind fun x_4 =>
  (flash_Blank F 63).bind fun x_5 =>
  (if ((((((((x_1.2 == 0) && (x_2.2 == 0)) && (x_2.1.End == 64)) && (x_3.2 == 0)) && (x_3.1.Bank == 1)) && (x_3.1.Count == 1)) && (x_3.1.End == 19)) && x_4.2) = true then
    some (((str x_4.1) == [7]))
  else
    some (false)).bind fun z_7 =>
  (if z_7 = true then
    (flash_Free F x_3.1).bind fun x_11 =>
    some ((x_11 == 45))
  else
    some (false)).bind fun z_9 =>
  some (z_9 && (x_5.2 == 5))

def wirelesslaw39_copied (F : Nat) (b_1 : (List Int)) : Option ((List Int)) :=
  (app 1 ([] : (List Int)) b_1).bind fun l_2 =>
  some l_2

def wirelessref39_Set_j2 (F : Nat) (l_6 : (List T_api_Item)) : Option ((List T_api_Item)) :=
  some l_6

def wirelessref39_Set_j1 (F : Nat) (key_2 : Int) (value_3 : (List Int)) (l_4 : (List T_api_Item)) (z_5 : Bool) : Option ((List T_api_Item)) :=
  if (!z_5) = true then
    (app 1 ([] : (List Int)) value_3).bind fun l_7 =>
    (app 32 l_4 [(T_api_Item.mk key_2 l_7)]).bind fun l_8 =>
    wirelessref39_Set_j2 F l_8
  else
    wirelessref39_Set_j2 F l_4

def wirelessref39_Set_j3 (F : Nat) (x_11 : Int) (l_12 : (List T_api_Item)) (z_13 : Bool) : Option (Out ((List T_api_Item) × Bool × Int) ((List T_api_Item) × Bool)) :=
  some (.next (l_12, z_13, w64 (x_11 + 1)))

def wirelessref39_Set_j4 (F : Nat) (l_1 : (List T_api_Item)) (key_2 : Int) (x_11 : Int) (l_14 : (List T_api_Item)) (z_15 : Bool) : Option (Out ((List T_api_Item) × Bool × Int) ((List T_api_Item) × Bool)) :=
  (idx l_1 x_11).bind fun x_16 =>
  if (x_16.Key != key_2) = true then
    (idx l_1 x_11).bind fun x_17 =>
    (app 32 l_14 [x_17]).bind fun l_18 =>
    wirelessref39_Set_j3 F x_11 l_18 z_15
  else
    wirelessref39_Set_j3 F x_11 l_14 z_15

def wirelessref39_Set_l1 (F : Nat) (l_1 : (List T_api_Item)) (key_2 : Int) (value_3 : (List Int)) (l_9 : (List T_api_Item)) (z_10 : Bool) (x_11 : Int) : Option (Out ((List T_api_Item) × Bool × Int) ((List T_api_Item) × Bool)) :=
  if (decide (x_11 < (len l_1))) = true then
    (if (!z_10) = true then
      (idx l_1 x_11).bind fun x_24 =>
      some (decide (x_24.Key ≥ key_2))
    else
      some (false)).bind fun z_20 =>
    if z_20 = true then
      (app 1 ([] : (List Int)) value_3).bind fun l_21 =>
      (app 32 l_9 [(T_api_Item.mk key_2 l_21)]).bind fun l_22 =>
      wirelessref39_Set_j4 F l_1 key_2 x_11 l_22 true
    else
      wirelessref39_Set_j4 F l_1 key_2 x_11 l_9 z_10
  else
    some (.done (l_9, z_10))

def wirelessref39_Set (F : Nat) (l_1 : (List T_api_Item)) (key_2 : Int) (value_3 : (List Int)) : Option ((List T_api_Item)) :=
  (iter (fun s => wirelessref39_Set_l1 F l_1 key_2 value_3 s.1 s.2.1 s.2.2) F (([] : (List T_api_Item)), ((len value_3) == 0), 0)).bind fun o =>
  wirelessref39_Set_j1 F key_2 value_3 o.1 o.2

def wirelesslaw39_after (F : Nat) (l_1 : (List T_api_Item)) (x_2 : T_wirelesslaw39_Step) : Option ((List T_api_Item)) :=
  (wirelessref39_Set F l_1 x_2.Key x_2.Value).bind fun x_3 =>
  some x_3

def wirelessref39_SameFlash (F : Nat) (a_1 : T_api_Flash) (b_2 : T_api_Flash) : Option (Bool) :=
  (if ((str a_1.Banks.1) == (str b_2.Banks.1)) = true then
    some (((str a_1.Banks.2) == (str b_2.Banks.2)))
  else
    some (false)).bind fun z_4 =>
  some z_4

def wirelessref39_SameItems_j1 (F : Nat) : Option (Bool) :=
  some true

def wirelessref39_SameItems_j2 (F : Nat) (x_3 : Int) (z_4 : Bool) : Option (Out (Int) (Sum (Unit) (Bool))) :=
  if z_4 = true then
    some (.done (.inr false))
  else
    some (.next (w64 (x_3 + 1)))

def wirelessref39_SameItems_l1 (F : Nat) (a_1 : (List T_api_Item)) (b_2 : (List T_api_Item)) (x_3 : Int) : Option (Out (Int) (Sum (Unit) (Bool))) :=
  if (decide (x_3 < (len a_1))) = true then
    (idx a_1 x_3).bind fun x_5 =>
    (idx b_2 x_3).bind fun x_6 =>
    if (x_5.Key != x_6.Key) = true then
      wirelessref39_SameItems_j2 F x_3 true
    else
      (idx a_1 x_3).bind fun x_1130 =>
      (idx b_2 x_3).bind fun x_1610 =>
      wirelessref39_SameItems_j2 F x_3 ((str x_1130.Value) != (str x_1610.Value))
  else
    some (.done (.inl ()))

def wirelessref39_SameItems (F : Nat) (a_1 : (List T_api_Item)) (b_2 : (List T_api_Item)) : Option (Bool) :=
  if ((len a_1) != (len b_2)) = true then
    some false
  else
    (iter (fun s => wirelessref39_SameItems_l1 F a_1 b_2 s) F (0)).bind fun o =>
    match o with
    | .inl u => wirelessref39_SameItems_j1 F
    | .inr u => some u

def wirelessref39_Same (F : Nat) (a_1 : T_api_Store) (b_2 : T_api_Store) : Option (Bool) :=
  (wirelessref39_SameFlash F a_1.Flash b_2.Flash).bind fun x_3 =>
  (if (((x_3 && (a_1.Bank == b_2.Bank)) && (a_1.Count == b_2.Count)) && (a_1.End == b_2.End)) = true then
    (wirelessref39_SameItems F a_1.Items b_2.Items).bind fun x_7 =>
    some (x_7)
  else
    some (false)).bind fun z_5 =>
  some z_5

def wirelessref39_Copy_j1 (F : Nat) (c_4 : T_api_Flash) : Option (T_api_Flash) :=
  some c_4

def wirelessref39_Copy (F : Nat) (f_1 : T_api_Flash) : Option (T_api_Flash) :=
  (app 1 ([] : (List Int)) f_1.Banks.1).bind fun l_327 =>
  (app 1 ([] : (List Int)) f_1.Banks.2).bind fun l_727 =>
  wirelessref39_Copy_j1 F (T_api_Flash.mk (l_327, l_727))

def wirelesslaw39_FlashKeeps_j1 (F : Nat) : Option (Bool) :=
  some true

def wirelesslaw39_FlashKeeps_j3 (F : Nat) (x_14 : Int) (c_21 : T_api_Store) (l_23 : (List T_api_Item)) : Option (Out (T_api_Store × (List T_api_Item) × Int) (Sum (Unit) (Bool))) :=
  (wirelessref39_Copy F c_21.Flash).bind fun x_24 =>
  (flash_Mount F x_24).bind fun x_25 =>
  (wirelessref39_SameItems F c_21.Items l_23).bind fun x_26 =>
  (if (!x_26) = true then
    some (true)
  else
    (wirelessref39_Same F c_21 x_25.1).bind fun x_30 =>
    some ((!x_30))).bind fun z_28 =>
  if z_28 = true then
    some (.done (.inr false))
  else
    some (.next (c_21, l_23, w64 (x_14 + 1)))

def wirelesslaw39_FlashKeeps_j2 (F : Nat) (l_2 : (List T_wirelesslaw39_Step)) (c_12 : T_api_Store) (l_13 : (List T_api_Item)) (x_14 : Int) (c_21 : T_api_Store) (x_22 : Int) : Option (Out (T_api_Store × (List T_api_Item) × Int) (Sum (Unit) (Bool))) :=
  if (x_22 == 0) = true then
    (idx l_2 x_14).bind fun x_31 =>
    (wirelesslaw39_after F l_13 x_31).bind fun x_32 =>
    wirelesslaw39_FlashKeeps_j3 F x_14 c_21 x_32
  else
    (wirelessref39_Same F c_12 c_21).bind fun x_33 =>
    if ((!x_33) || ((x_22 != 8) && (x_22 != 4))) = true then
      some (.done (.inr false))
    else
      wirelesslaw39_FlashKeeps_j3 F x_14 c_21 l_13

def wirelesslaw39_FlashKeeps_l1 (F : Nat) (l_2 : (List T_wirelesslaw39_Step)) (c_12 : T_api_Store) (l_13 : (List T_api_Item)) (x_14 : Int) : Option (Out (T_api_Store × (List T_api_Item) × Int) (Sum (Unit) (Bool))) :=
  if (decide (x_14 < (len l_2))) = true then
    (idx l_2 x_14).bind fun x_34 =>
    (idx l_2 x_14).bind fun x_35 =>
    (wirelesslaw39_copied F x_35.Value).bind fun x_918 =>
    (flash_Put F c_12 x_34.Key x_918).bind fun x_998 =>
    wirelesslaw39_FlashKeeps_j2 F l_2 c_12 l_13 x_14 x_998.1 x_998.2
  else
    some (.done (.inl ()))

def wirelesslaw39_FlashKeeps (F : Nat) (size_1 : Int) (l_2 : (List T_wirelesslaw39_Step)) : Option (Bool) :=
  (wirelesslaw39_lives F).bind fun x_3 =>
  if (!x_3) = true then
    some false
  else
    if (((decide (size_1 < 64)) || (decide (size_1 > 4096))) || (decide ((len l_2) > 60))) = true then
      some true
    else
      (flash_Blank F size_1).bind fun x_4 =>
      (flash_Mount F x_4.1).bind fun x_5 =>
      (iter (fun s => wirelesslaw39_FlashKeeps_l1 F l_2 s.1 s.2.1 s.2.2) F (x_5.1, ([] : (List T_api_Item)), 0)).bind fun o =>
      match o with
      | .inl u => wirelesslaw39_FlashKeeps_j1 F
      | .inr u => some u

end V
end Go.Proofs.YtojcklkcjnnkaaaDoor
