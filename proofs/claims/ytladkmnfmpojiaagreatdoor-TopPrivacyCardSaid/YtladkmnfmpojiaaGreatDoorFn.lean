/-
  Pure twins of the Go functions, written by program.
-/
import Derived.Test.YtladkmnfmpojiaaGreatDoorLa
namespace Go.Proofs.YtladkmnfmpojiaaGreatDoor
namespace V
structure T_api_Address where
  Kind : Int
  Bits : Int

structure T_api_Identity where
  Address : T_api_Address
  IRK : Int

structure T_api_Field where
  Size : Int
  Value : Int

def wirelesstop_livesWorld (_ : Nat) : Option (Bool) :=
  some true

def privacy_Epoch (_ : Nat) (local_1 : Int) (period_2 : Int) : Option (Int) :=
  if ((decide (period_2 < 1)) || (decide (local_1 < 0))) = true then
    some 0
  else
    (iquo .i64 local_1 period_2).bind fun x_3 =>
    some x_3

def octets_sized (_ : Nat) (n_1 : Int) : Option (Bool) :=
  some ((decide (n_1 ≥ 1)) && (decide (n_1 ≤ 8)))

def octets_Put_j1 (_ : Nat) (l_2 : (List Int)) : Option ((List Int) × Int) :=
  some (l_2, 0)

def octets_Put_j2 (_ : Nat) (x_4 : Int) (l_5 : (List Int)) : Option (Out ((List Int) × Int) (Sum ((List Int)) ((List Int) × Int))) :=
  some (.next (l_5, w64 (x_4 + 1)))

def octets_Put_l2 (_ : Nat) (x_6 : T_api_Field) (l_10 : (List Int)) (x_11 : Int) : Option (Out ((List Int) × Int) ((List Int))) :=
  if (decide (x_11 < x_6.Size)) = true then
    (ishr .u64 x_6.Value (w64 (8 * x_11))).bind fun x_12 =>
    (app 1 l_10 [wu8 x_12]).bind fun l_13 =>
    some (.next (l_13, w64 (x_11 + 1)))
  else
    some (.done (l_10))

def octets_Put_l1 (F : Nat) (fields_1 : (List T_api_Field)) (l_3 : (List Int)) (x_4 : Int) : Option (Out ((List Int) × Int) (Sum ((List Int)) ((List Int) × Int))) :=
  if (decide (x_4 < (len fields_1))) = true then
    (idx fields_1 x_4).bind fun x_6 =>
    (octets_sized F x_6.Size).bind fun x_7 =>
    (if (!x_7) = true then
      some (true)
    else
      if (decide (x_6.Size < 8)) = true then
        (ishr .u64 x_6.Value (w64 (8 * x_6.Size))).bind fun x_16 =>
        some ((x_16 != 0))
      else
        some (false)).bind fun z_9 =>
    if z_9 = true then
      some (.done (.inr ([], 5)))
    else
      (iter (fun s => octets_Put_l2 F x_6 s.1 s.2) F (l_3, 0)).bind fun o =>
      octets_Put_j2 F x_4 o
  else
    some (.done (.inl (l_3)))

def octets_Put (F : Nat) (fields_1 : (List T_api_Field)) : Option ((List Int) × Int) :=
  (iter (fun s => octets_Put_l1 F fields_1 s.1 s.2) F ([], 0)).bind fun o =>
  match o with
  | .inl u => octets_Put_j1 F u
  | .inr u => some u

def mac_bytes_j1 (F : Nat) (l_2 : (List T_api_Field)) : Option ((List Int)) :=
  (octets_Put F l_2).bind fun x_3 =>
  some x_3.1

def mac_bytes_l1 (_ : Nat) (numbers_1 : (List Int)) (l_4 : (List T_api_Field)) (x_5 : Int) : Option (Out ((List T_api_Field) × Int) ((List T_api_Field))) :=
  if (decide (x_5 < (len numbers_1))) = true then
    (idx numbers_1 x_5).bind fun x_6 =>
    (app 16 l_4 [(T_api_Field.mk 8 x_6)]).bind fun l_7 =>
    some (.next (l_7, w64 (x_5 + 1)))
  else
    some (.done (l_4))

def mac_bytes (F : Nat) (numbers_1 : (List Int)) : Option ((List Int)) :=
  (iter (fun s => mac_bytes_l1 F numbers_1 s.1 s.2) F ([], 0)).bind fun o =>
  mac_bytes_j1 F o

def octets_Join_j1 (_ : Nat) (l_2 : (List Int)) : Option ((List Int)) :=
  some l_2

def octets_Join_l1 (_ : Nat) (parts_1 : (List (List Int))) (l_3 : (List Int)) (x_4 : Int) : Option (Out ((List Int) × Int) ((List Int))) :=
  if (decide (x_4 < (len parts_1))) = true then
    (idx parts_1 x_4).bind fun x_5 =>
    (app 1 l_3 x_5).bind fun l_6 =>
    some (.next (l_6, w64 (x_4 + 1)))
  else
    some (.done (l_3))

def octets_Join (F : Nat) (parts_1 : (List (List Int))) : Option ((List Int)) :=
  (iter (fun s => octets_Join_l1 F parts_1 s.1 s.2) F ([], 0)).bind fun o =>
  octets_Join_j1 F o

def serial_Low (_ : Nat) (n_1 : Int) (bits_2 : Int) : Option (Int) :=
  if (decide (bits_2 ≤ 0)) = true then
    some 0
  else
    if (decide (bits_2 ≥ 64)) = true then
      some n_1
    else
      (ishl .u64 1 bits_2).bind fun x_3 =>
      some (iand .u64 n_1 (wu64 (x_3 - 1)))

def block_split (F : Nat) (x_1 : Int) : Option ((Int × Int)) :=
  (serial_Low F x_1 32).bind fun x_2 =>
  some (wu32 (shrp x_1 32), wu32 x_2)

def math_bits_RotateLeft64 (_ : Nat) (x_1 : Int) (k_2 : Int) : Option (Int) :=
  (ishl .u64 x_1 (iand .u64 (wu64 k_2) 63)).bind fun x_3 =>
  (ishr .u64 x_1 (wu64 (64 - (iand .u64 (wu64 k_2) 63)))).bind fun x_4 =>
  some (ior .u64 x_3 x_4)

def math_bits_RotateLeft32 (_ : Nat) (x_1 : Int) (k_2 : Int) : Option (Int) :=
  (ishl .u32 x_1 (iand .u64 (wu64 k_2) 31)).bind fun x_3 =>
  (ishr .u32 x_1 (wu64 (32 - (iand .u64 (wu64 k_2) 31)))).bind fun x_4 =>
  some (ior .u32 x_3 x_4)

def block_Round (F : Nat) (k_1 : Int) (i_2 : Int) (half_3 : Int) : Option (Int) :=
  (math_bits_RotateLeft64 F k_1 (remp (w64 (11 * (remp i_2 64))) 64)).bind fun x_4 =>
  (serial_Low F x_4 32).bind fun x_5 =>
  (math_bits_RotateLeft32 F (wu32 (half_3 + (wu32 x_5))) 7).bind fun x_6 =>
  (math_bits_RotateLeft32 F (wu32 x_5) 16).bind fun x_7 =>
  some (ixor .u32 (wu32 (x_6 * 2654435761)) x_7)

def block_halves_join (_ : Nat) (h_1 : (Int × Int)) : Option (Int) :=
  some (ior .u64 (shlp .u64 (wu64 h_1.1) 32) (wu64 h_1.2))

def block_Mix_j1 (F : Nat) (x_4 : Int) (x_5 : Int) : Option (Int) :=
  (block_halves_join F (x_4, x_5)).bind fun x_6 =>
  some x_6

def block_Mix_l1 (F : Nat) (k_1 : Int) (x_7 : Int) (x_8 : Int) (x_9 : Int) : Option (Out (Int × Int × Int) (Int × Int)) :=
  if (decide (x_9 < 8)) = true then
    (block_Round F k_1 x_9 x_8).bind fun x_12 =>
    some (.next (x_8, ixor .u32 x_7 x_12, w64 (x_9 + 1)))
  else
    some (.done (x_7, x_8))

def block_Mix (F : Nat) (k_1 : Int) (x_2 : Int) : Option (Int) :=
  (block_split F x_2).bind fun x_3 =>
  (iter (fun s => block_Mix_l1 F k_1 s.1 s.2.1 s.2.2) F (x_3.1, x_3.2, 0)).bind fun o =>
  block_Mix_j1 F o.1 o.2

def mac_Tag_it_j1 (_ : Nat) (x_7 : Int) (x_8 : Int) : Option (Out (Int × Int) (Int)) :=
  some (.next (x_8, w64 (x_7 + 8)))

def mac_Tag_b (F : Nat) (k_1 : Int) (x_6 : Int) (x_9 : Int) : Option (Int) :=
  (block_Mix F k_1 (ixor .u64 x_6 x_9)).bind fun x_11 =>
  some x_11

def mac_Tag_it_j2 (F : Nat) (k_1 : Int) (x_6 : Int) (x_7 : Int) (x_9 : Int) : Option (Out (Int × Int) (Int)) :=
  (mac_Tag_b F k_1 x_6 x_9).bind fun o_10 =>
  mac_Tag_it_j1 F x_7 o_10

def mac_Tag_it_l2 (_ : Nat) (l_12 : (List Int)) (x_13 : Int) (x_14 : Int) : Option (Out (Int × Int) (Int)) :=
  if (decide (x_14 < (len l_12))) = true then
    (idx l_12 x_14).bind fun x_15 =>
    (ishl .u64 (wu64 x_15) (w64 (8 * x_14))).bind fun x_16 =>
    some (.next (ior .u64 x_13 x_16, w64 (x_14 + 1)))
  else
    some (.done (x_13))

def mac_Tag_it_l1 (F : Nat) (k_1 : Int) (b_2 : (List Int)) (x_6 : Int) (x_7 : Int) : Option (Out (Int × Int) (Int)) :=
  if (decide (x_7 < (len b_2))) = true then
    (sub b_2 x_7 (imin (w64 (x_7 + 8)) (len b_2))).bind fun l_12 =>
    (iter (fun s => mac_Tag_it_l2 F l_12 s.1 s.2) F (0, 0)).bind fun o =>
    mac_Tag_it_j2 F k_1 x_6 x_7 o
  else
    some (.done (x_6))

def mac_Tag_it (F : Nat) (k_1 : Int) (b_2 : (List Int)) (x_3 : Int) : Option (Int) :=
  (iter (fun s => mac_Tag_it_l1 F k_1 b_2 s.1 s.2) F (x_3, 0)).bind fun o =>
  some o

def mac_Tag (F : Nat) (k_1 : Int) (b_2 : (List Int)) : Option (Int) :=
  (block_Mix F k_1 (wu64 (len b_2))).bind fun x_3 =>
  (mac_Tag_it F k_1 b_2 x_3).bind fun o_4 =>
  some o_4

def mac_Derive (F : Nat) (k_1 : Int) (label_2 : List Int) (parts_3 : (List Int)) : Option (Int) :=
  (app 1 ([] : List Int) label_2).bind fun l_4 =>
  (mac_bytes F parts_3).bind fun x_5 =>
  (octets_Join F [l_4, [0], x_5]).bind fun x_6 =>
  (mac_Tag F k_1 x_6).bind fun x_7 =>
  some x_7

def privacy_hash (F : Nat) (irk_1 : Int) (prand_2 : Int) : Option (Int) :=
  (mac_Derive F irk_1 [114, 112, 97] [prand_2]).bind fun x_3 =>
  some (iand .u64 x_3 16777215)

def address_mask (_ : Nat) (bits_1 : Int) : Option (Int) :=
  (ishl .u64 1 bits_1).bind fun x_2 =>
  some (wu64 (x_2 - 1))

def address_fit (F : Nat) (x_1 : Int) (bits_2 : Int) : Option (Int) :=
  (address_mask F bits_2).bind fun x_3 =>
  (address_mask F bits_2).bind fun x_4 =>
  some (imin (imax (iand .u64 x_1 x_3) 1) (wu64 (x_4 - 1)))

def address_Random_j2 (_ : Nat) (kind_1 : Int) (x_5 : Int) : Option (T_api_Address) :=
  some (T_api_Address.mk kind_1 x_5)

def address_Random_j3 (_ : Nat) (kind_1 : Int) (x_888 : Int) : Option (T_api_Address) :=
  some (T_api_Address.mk kind_1 x_888)

def address_Random_j1 (F : Nat) (kind_1 : Int) (bits_2 : Int) (z_4 : Bool) : Option (T_api_Address) :=
  if z_4 = true then
    (idx [0, 0, 3, 1, 0] kind_1).bind fun x_168 =>
    (address_fit F bits_2 46).bind fun x_488 =>
    address_Random_j2 F kind_1 (ior .u64 (shlp .u64 x_168 46) x_488)
  else
    if (kind_1 == 3) = true then
      (idx [0, 0, 3, 1, 0] kind_1).bind fun x_1051 =>
      (address_fit F (shrp bits_2 24) 22).bind fun x_1451 =>
      (address_mask F 24).bind fun x_1771 =>
      address_Random_j3 F kind_1 (ior .u64 (ior .u64 (shlp .u64 x_1051 46) (shlp .u64 x_1451 24)) (iand .u64 bits_2 x_1771))
    else
      some (T_api_Address.mk 0 0)

def address_Random (F : Nat) (kind_1 : Int) (bits_2 : Int) : Option (T_api_Address) :=
  if (kind_1 == 1) = true then
    (address_mask F 48).bind fun x_3 =>
    some (T_api_Address.mk kind_1 (iand .u64 bits_2 x_3))
  else
    if (kind_1 == 2) = true then
      address_Random_j1 F kind_1 bits_2 (kind_1 == 2)
    else
      address_Random_j1 F kind_1 bits_2 (kind_1 == 4)

def privacy_Make (F : Nat) (irk_1 : Int) (prand_2 : Int) : Option (T_api_Address × Int) :=
  if (irk_1 == 0) = true then
    some ((T_api_Address.mk 0 0), 17)
  else
    if ((decide (prand_2 < 1)) || (decide (prand_2 > 4194302))) = true then
      some ((T_api_Address.mk 0 0), 5)
    else
      (privacy_hash F irk_1 (wu64 prand_2)).bind fun x_3 =>
      (address_Random F 3 (ior .u64 (shlp .u64 (wu64 prand_2) 24) x_3)).bind fun x_4 =>
      some (x_4, 0)

def privacy_At (F : Nat) (irk_1 : Int) (epoch_2 : Int) : Option (T_api_Address) :=
  (mac_Derive F irk_1 [101, 112, 111, 99, 104] [wu64 epoch_2]).bind fun x_3 =>
  (privacy_Make F irk_1 (wu32 (wu64 (1 + (remp x_3 4194302))))).bind fun x_4 =>
  some x_4.1

def privacy_Current_j1 (_ : Nat) (c_7 : T_api_Address) : Option (T_api_Address) :=
  some c_7

def privacy_Current (F : Nat) (id_1 : T_api_Identity) (private_2 : Bool) (local_3 : Int) (period_4 : Int) : Option (T_api_Address) :=
  if ((!private_2) || (id_1.IRK == 0)) = true then
    some id_1.Address
  else
    (privacy_Epoch F local_3 period_4).bind fun x_10 =>
    (privacy_At F id_1.IRK x_10).bind fun x_11 =>
    privacy_Current_j1 F x_11

def address_part_j1 (_ : Nat) (x_2 : Int) : Option (Int × Int) :=
  some (x_2, 22)

def address_part_j2 (_ : Nat) (x_6 : Int) : Option (Int × Int) :=
  some (x_6, 46)

def address_part (F : Nat) (a_1 : T_api_Address) : Option (Int × Int) :=
  if (a_1.Kind == 3) = true then
    (address_mask F 22).bind fun x_5 =>
    address_part_j1 F (iand .u64 (shrp a_1.Bits 24) x_5)
  else
    (address_mask F 46).bind fun x_9 =>
    address_part_j2 F (iand .u64 a_1.Bits x_9)

def address_Check_j1 (_ : Nat) (z_3 : Bool) : Option (Int) :=
  if z_3 = true then
    some 1
  else
    some 0

def address_Check (F : Nat) (a_1 : T_api_Address) : Option (Int) :=
  if ((decide (a_1.Kind ≤ 0)) || (decide (a_1.Kind ≥ 5))) = true then
    some 12
  else
    if ((shrp a_1.Bits 48) != 0) = true then
      some 5
    else
      if (a_1.Kind == 1) = true then
        some 0
      else
        (address_part F a_1).bind fun x_2 =>
        (idx [0, 0, 3, 1, 0] a_1.Kind).bind fun x_6 =>
        if (((shrp a_1.Bits 46) != x_6) || (x_2.1 == 0)) = true then
          address_Check_j1 F true
        else
          (address_mask F x_2.2).bind fun x_8 =>
          address_Check_j1 F (x_2.1 == x_8)

def privacy_Resolves_j1 (_ : Nat) (z_5 : Bool) : Option (Bool) :=
  some z_5

def privacy_Resolves (F : Nat) (irk_1 : Int) (a_2 : T_api_Address) : Option (Bool) :=
  (if ((irk_1 == 0) || (a_2.Kind != 3)) = true then
    some (true)
  else
    (address_Check F a_2).bind fun x_10 =>
    some ((x_10 != 0))).bind fun z_4 =>
  if z_4 = true then
    some false
  else
    (privacy_hash F irk_1 (iand .u64 (shrp a_2.Bits 24) 4194303)).bind fun x_8 =>
    privacy_Resolves_j1 F ((iand .u64 a_2.Bits 16777215) == x_8)

def privacy_Find_1 (F : Nat) (id_1 : T_api_Identity) (p_2 : T_api_Address) : Option (Bool × T_api_Address) :=
  (if ((id_1.Address.Kind == p_2.Kind) && (id_1.Address.Bits == p_2.Bits)) = true then
    some (true)
  else
    (privacy_Resolves F id_1.IRK p_2).bind fun x_6 =>
    some (x_6)).bind fun z_4 =>
  some (z_4, p_2)

def slices_IndexFunc_api_Identity_api_Identity_at17_j1 (_ : Nat) (c_5 : T_api_Address) : Option (Int × T_api_Address) :=
  some ((-1), c_5)

def slices_IndexFunc_api_Identity_api_Identity_at17_l1 (F : Nat) (s_1 : (List T_api_Identity)) (c_8 : T_api_Address) (x_9 : Int) : Option (Out (T_api_Address × Int) (Sum (T_api_Address) (Int × T_api_Address))) :=
  if (decide (x_9 < (len s_1))) = true then
    (idx s_1 x_9).bind fun x_10 =>
    (privacy_Find_1 F x_10 c_8).bind fun x_11 =>
    if x_11.1 = true then
      some (.done (.inr (x_9, x_11.2)))
    else
      some (.next (x_11.2, w64 (x_9 + 1)))
  else
    some (.done (.inl (c_8)))

def slices_IndexFunc_api_Identity_api_Identity_at17 (F : Nat) (s_1 : (List T_api_Identity)) (c_2 : T_api_Address) : Option (Int × T_api_Address) :=
  (iter (fun s => slices_IndexFunc_api_Identity_api_Identity_at17_l1 F s_1 s.1 s.2) F (c_2, 0)).bind fun o =>
  match o with
  | .inl u => slices_IndexFunc_api_Identity_api_Identity_at17_j1 F u
  | .inr u => some u

def privacy_Find (F : Nat) (list_1 : (List T_api_Identity)) (a_2 : T_api_Address) : Option (Int) :=
  (address_Check F a_2).bind fun x_3 =>
  if (x_3 != 0) = true then
    some (-1)
  else
    (slices_IndexFunc_api_Identity_api_Identity_at17 F list_1 a_2).bind fun x_4 =>
    some x_4.1

def wirelesstop_TopPrivacy_j2 (_ : Nat) (z_15 : Bool) : Option (Bool) :=
  some z_15

def wirelesstop_TopPrivacy_j1 (F : Nat) (a_1 : Int) (local_3 : Int) (period_5 : Int) (x_7 : T_api_Address) (z_14 : Bool) : Option (Bool) :=
  if z_14 = true then
    some false
  else
    (privacy_Find F [(T_api_Identity.mk (T_api_Address.mk 1 5) 0)] x_7).bind fun x_18 =>
    if (x_18 == (-1)) = true then
      (privacy_Current F (T_api_Identity.mk (T_api_Address.mk 1 5) a_1) false local_3 period_5).bind fun x_20 =>
      wirelesstop_TopPrivacy_j2 F ((x_20.Kind == 1) && (x_20.Bits == 5))
    else
      wirelesstop_TopPrivacy_j2 F false

def wirelesstop_TopPrivacy (F : Nat) (a_1 : Int) (b_2 : Int) (local_3 : Int) (later_4 : Int) (period_5 : Int) : Option (Bool) :=
  (wirelesstop_livesWorld F).bind fun x_6 =>
  if (!x_6) = true then
    some false
  else
    if (((((a_1 == 0) || (b_2 == 0)) || (decide (period_5 < 1))) || (decide (local_3 < 0))) || (decide (later_4 < local_3))) = true then
      some true
    else
      (privacy_Current F (T_api_Identity.mk (T_api_Address.mk 1 5) a_1) true local_3 period_5).bind fun x_7 =>
      (privacy_Current F (T_api_Identity.mk (T_api_Address.mk 1 5) a_1) true later_4 period_5).bind fun x_8 =>
      (privacy_Resolves F a_1 x_7).bind fun x_9 =>
      (if (!x_9) = true then
        some (true)
      else
        (privacy_Resolves F a_1 x_8).bind fun x_29 =>
        some ((!x_29))).bind fun z_11 =>
      (if z_11 = true then
        some (true)
      else
        (privacy_Find F [(T_api_Identity.mk (T_api_Address.mk 1 9) a_1)] x_8).bind fun x_27 =>
        some ((x_27 != 0))).bind fun z_13 =>
      if z_13 = true then
        some false
      else
        (iquo .i64 local_3 period_5).bind fun x_23 =>
        (iquo .i64 later_4 period_5).bind fun x_24 =>
        if (x_23 == x_24) = true then
          wirelesstop_TopPrivacy_j1 F a_1 local_3 period_5 x_7 (!((x_7.Kind == x_8.Kind) && (x_7.Bits == x_8.Bits)))
        else
          wirelesstop_TopPrivacy_j1 F a_1 local_3 period_5 x_7 false

end V
end Go.Proofs.YtladkmnfmpojiaaGreatDoor
