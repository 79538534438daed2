/-
  Pure twins of the Go functions, written by program.
-/
import Derived.Test.YtchlimkophmjlaaPure
namespace Go.Proofs.Ytchlimkophmjlaa
namespace V
structure T_api_UUID where
  High : Int
  Low : Int

structure T_api_Attribute where
  Handle : Int
  f_Type : T_api_UUID
  Perms : Int
  Value : (List Int)

structure T_api_Char where
  f_Type : T_api_UUID
  Props : Int
  Perms : Int
  Value : (List Int)
  More : (List T_api_Attribute)

structure T_api_Service where
  f_Type : T_api_UUID
  Primary : Bool
  Chars : (List T_api_Char)

structure T_api_Found where
  Handle : Int
  Last : Int
  Value : Int
  Props : Int
  f_Type : T_api_UUID

structure T_database_place where
  char : Bool
  config : Bool

def wirelesslaw43_small_j1 (F : Nat) (x_2 : Int) (x_3 : Int) : Option (Bool) :=
  some ((decide (x_2 ≤ 1100)) && (decide (x_3 ≤ 8192)))

def wirelesslaw43_small_j2 (F : Nat) (x_6 : Int) (x_7 : Int) (x_8 : Int) : Option (Out (Int × Int × Int) (Sum (Int × Int) (Bool))) :=
  some (.next (x_7, x_8, w64 (x_6 + 1)))

def wirelesslaw43_small_j3 (F : Nat) (x_12 : Int) (x_14 : Int) (x_15 : Int) : Option (Out (Int × Int × Int) (Sum (Int × Int) (Bool))) :=
  some (.next (x_14, x_15, w64 (x_12 + 1)))

def wirelesslaw43_small_l3 (F : Nat) (x_10 : Int) (x_17 : T_api_Char) (x_18 : Int) (x_19 : Int) : Option (Out (Int × Int) (Sum (Int × Int) (Bool))) :=
  if (decide (x_19 < (len x_17.More))) = true then
    (idx x_17.More x_19).bind fun x_20 =>
    if (decide ((len x_20.Value) > 8192)) = true then
      some (.done (.inr false))
    else
      (idx x_17.More x_19).bind fun x_21 =>
      some (.next (w64 (x_18 + (len x_21.Value)), w64 (x_19 + 1)))
  else
    some (.done (.inl (w64 (x_10 + (len x_17.More)), x_18)))

def wirelesslaw43_small_l2 (F : Nat) (l_1 : (List T_api_Service)) (x_6 : Int) (x_10 : Int) (x_11 : Int) (x_12 : Int) : Option (Out (Int × Int × Int) (Sum (Int × Int) (Bool))) :=
  (idx l_1 x_6).bind fun x_13 =>
  if ((decide (x_12 < (len x_13.Chars))) && (decide (x_10 ≤ 1100))) = true then
    (idx l_1 x_6).bind fun x_16 =>
    (idx x_16.Chars x_12).bind fun x_17 =>
    if ((decide ((len x_17.Value) > 8192)) || (decide ((w64 (x_10 + (len x_17.More))) > 1100))) = true then
      some (.done (.inr false))
    else
      (iter (fun s => wirelesslaw43_small_l3 F x_10 x_17 s.1 s.2) F (w64 (x_11 + (len x_17.Value)), 0)).bind fun o =>
      match o with
      | .inl u => wirelesslaw43_small_j3 F x_12 u.1 u.2
      | .inr u => some (.done (.inr u))
  else
    some (.done (.inl (x_10, x_11)))

def wirelesslaw43_small_l1 (F : Nat) (l_1 : (List T_api_Service)) (x_4 : Int) (x_5 : Int) (x_6 : Int) : Option (Out (Int × Int × Int) (Sum (Int × Int) (Bool))) :=
  if (((decide (x_6 < (len l_1))) && (decide (x_6 < 1100))) && (decide (x_4 ≤ 1100))) = true then
    (idx l_1 x_6).bind fun x_9 =>
    (iter (fun s => wirelesslaw43_small_l2 F l_1 x_6 s.1 s.2.1 s.2.2) F (w64 (x_4 + (len x_9.Chars)), x_5, 0)).bind fun o =>
    match o with
    | .inl u => wirelesslaw43_small_j2 F x_6 u.1 u.2
    | .inr u => some (.done (.inr u))
  else
    some (.done (.inl (x_4, x_5)))

def wirelesslaw43_small (F : Nat) (l_1 : (List T_api_Service)) : Option (Bool) :=
  (iter (fun s => wirelesslaw43_small_l1 F l_1 s.1 s.2.1 s.2.2) F (len l_1, 0, 0)).bind fun o =>
  match o with
  | .inl u => wirelesslaw43_small_j1 F u.1 u.2
  | .inr u => some u

def wirelessref41_Short (F : Nat) (n_1 : Int) : Option (T_api_UUID) :=
  some (T_api_UUID.mk (wu64 ((wu64 ((wu64 n_1) * 4294967296)) + 4096)) 9223372588214596859)

def wirelesslaw43_sample (F : Nat) : Option ((List T_api_Service)) :=
  (wirelessref41_Short F 6145).bind fun x_1 =>
  (wirelessref41_Short F 10757).bind fun x_2 =>
  some [(T_api_Service.mk x_1 true [(T_api_Char.mk x_2 32 0 [] [])])]

def uuid_bytes_j1 (F : Nat) (u_1 : T_api_UUID) : Option ((Int × Int × Int × Int × Int × Int × Int × Int × Int × Int × Int × Int × Int × Int × Int × Int)) :=
  some (wu8 (shrp u_1.Low 0), wu8 (shrp u_1.Low 8), wu8 (shrp u_1.Low 16), wu8 (shrp u_1.Low 24), wu8 (shrp u_1.Low 32), wu8 (shrp u_1.Low 40), wu8 (shrp u_1.Low 48), wu8 (shrp u_1.Low 56), wu8 (shrp u_1.High 0), wu8 (shrp u_1.High 8), wu8 (shrp u_1.High 16), wu8 (shrp u_1.High 24), wu8 (shrp u_1.High 32), wu8 (shrp u_1.High 40), wu8 (shrp u_1.High 48), wu8 (shrp u_1.High 56))

def uuid_bytes_u2_8 (F : Nat) (u_1 : T_api_UUID) : Option ((Int × Int × Int × Int × Int × Int × Int × Int × Int × Int × Int × Int × Int × Int × Int × Int)) :=
  uuid_bytes_j1 F u_1

def uuid_bytes_u2_7 (F : Nat) (u_1 : T_api_UUID) : Option ((Int × Int × Int × Int × Int × Int × Int × Int × Int × Int × Int × Int × Int × Int × Int × Int)) :=
  uuid_bytes_u2_8 F u_1

def uuid_bytes_u2_6 (F : Nat) (u_1 : T_api_UUID) : Option ((Int × Int × Int × Int × Int × Int × Int × Int × Int × Int × Int × Int × Int × Int × Int × Int)) :=
  uuid_bytes_u2_7 F u_1

def uuid_bytes_u2_5 (F : Nat) (u_1 : T_api_UUID) : Option ((Int × Int × Int × Int × Int × Int × Int × Int × Int × Int × Int × Int × Int × Int × Int × Int)) :=
  uuid_bytes_u2_6 F u_1

def uuid_bytes_u2_4 (F : Nat) (u_1 : T_api_UUID) : Option ((Int × Int × Int × Int × Int × Int × Int × Int × Int × Int × Int × Int × Int × Int × Int × Int)) :=
  uuid_bytes_u2_5 F u_1

def uuid_bytes_u2_3 (F : Nat) (u_1 : T_api_UUID) : Option ((Int × Int × Int × Int × Int × Int × Int × Int × Int × Int × Int × Int × Int × Int × Int × Int)) :=
  uuid_bytes_u2_4 F u_1

def uuid_bytes_u2_2 (F : Nat) (u_1 : T_api_UUID) : Option ((Int × Int × Int × Int × Int × Int × Int × Int × Int × Int × Int × Int × Int × Int × Int × Int)) :=
  uuid_bytes_u2_3 F u_1

def uuid_bytes_u2_1 (F : Nat) (u_1 : T_api_UUID) : Option ((Int × Int × Int × Int × Int × Int × Int × Int × Int × Int × Int × Int × Int × Int × Int × Int)) :=
  uuid_bytes_u2_2 F u_1

def uuid_bytes (F : Nat) (u_1 : T_api_UUID) : Option ((Int × Int × Int × Int × Int × Int × Int × Int × Int × Int × Int × Int × Int × Int × Int × Int)) :=
  uuid_bytes_u2_1 F u_1

def uuid_Number_j1 (F : Nat) (x_2 : (Int × Int × Int × Int × Int × Int × Int × Int × Int × Int × Int × Int × Int × Int × Int × Int)) (z_3 : Bool) : Option (Int × Bool) :=
  if z_3 = true then
    some (0, false)
  else
    some (ior .u16 (wu16 x_2.2.2.2.2.2.2.2.2.2.2.2.2.1) (shlp .u16 (wu16 x_2.2.2.2.2.2.2.2.2.2.2.2.2.2.1) 8), true)

def uuid_Number (F : Nat) (u_1 : T_api_UUID) : Option (Int × Bool) :=
  (uuid_bytes F u_1).bind fun x_2 =>
  (uuid_bytes F (T_api_UUID.mk 4096 9223372588214596859)).bind fun x_6 =>
  uuid_Number_j1 F x_2 (!((x_2.1 == x_6.1) && ((x_2.2.1 == x_6.2.1) && ((x_2.2.2.1 == x_6.2.2.1) && ((x_2.2.2.2.1 == x_6.2.2.2.1) && ((x_2.2.2.2.2.1 == x_6.2.2.2.2.1) && ((x_2.2.2.2.2.2.1 == x_6.2.2.2.2.2.1) && ((x_2.2.2.2.2.2.2.1 == x_6.2.2.2.2.2.2.1) && ((x_2.2.2.2.2.2.2.2.1 == x_6.2.2.2.2.2.2.2.1) && ((x_2.2.2.2.2.2.2.2.2.1 == x_6.2.2.2.2.2.2.2.2.1) && ((x_2.2.2.2.2.2.2.2.2.2.1 == x_6.2.2.2.2.2.2.2.2.2.1) && ((x_2.2.2.2.2.2.2.2.2.2.2.1 == x_6.2.2.2.2.2.2.2.2.2.2.1) && ((x_2.2.2.2.2.2.2.2.2.2.2.2.1 == x_6.2.2.2.2.2.2.2.2.2.2.2.1) && ((0 == x_6.2.2.2.2.2.2.2.2.2.2.2.2.1) && ((0 == x_6.2.2.2.2.2.2.2.2.2.2.2.2.2.1) && ((x_2.2.2.2.2.2.2.2.2.2.2.2.2.2.2.1 == x_6.2.2.2.2.2.2.2.2.2.2.2.2.2.2.1) && (x_2.2.2.2.2.2.2.2.2.2.2.2.2.2.2.2 == x_6.2.2.2.2.2.2.2.2.2.2.2.2.2.2.2)))))))))))))))))

def slices_Index_uint16_uint16_j1 (F : Nat) : Option (Int) :=
  some (-1)

def slices_Index_uint16_uint16_l1 (F : Nat) (s_1 : (List Int)) (v_2 : Int) (x_3 : Int) : Option (Out (Int) (Sum (Unit) (Int))) :=
  if (decide (x_3 < (len s_1))) = true then
    (idx s_1 x_3).bind fun x_4 =>
    if (v_2 == x_4) = true then
      some (.done (.inr x_3))
    else
      some (.next (w64 (x_3 + 1)))
  else
    some (.done (.inl ()))

def slices_Index_uint16_uint16 (F : Nat) (s_1 : (List Int)) (v_2 : Int) : Option (Int) :=
  (iter (fun s => slices_Index_uint16_uint16_l1 F s_1 v_2 s) F (0)).bind fun o =>
  match o with
  | .inl u => slices_Index_uint16_uint16_j1 F
  | .inr u => some u

def slices_Contains_uint16_uint16 (F : Nat) (s_1 : (List Int)) (v_2 : Int) : Option (Bool) :=
  (slices_Index_uint16_uint16 F s_1 v_2).bind fun x_3 =>
  some (decide (x_3 ≥ 0))

def database_is (F : Nat) (u_1 : T_api_UUID) (numbers_2 : (List Int)) : Option (Bool) :=
  (uuid_Number F u_1).bind fun x_3 =>
  (if x_3.2 = true then
    (slices_Contains_uint16_uint16 F numbers_2 x_3.1).bind fun x_7 =>
    some (x_7)
  else
    some (false)).bind fun z_5 =>
  some z_5

def database_service (F : Nat) (u_1 : T_api_UUID) : Option (Bool) :=
  (database_is F u_1 [10240, 10241]).bind fun x_2 =>
  some x_2

def database_declaration (F : Nat) (u_1 : T_api_UUID) : Option (Bool) :=
  (database_service F u_1).bind fun x_2 =>
  (if x_2 = true then
    some (true)
  else
    (database_is F u_1 [10242, 10243]).bind fun x_6 =>
    some (x_6)).bind fun z_4 =>
  some z_4

def database_reserved (F : Nat) (u_1 : T_api_UUID) : Option (Bool) :=
  (database_declaration F u_1).bind fun x_2 =>
  (if x_2 = true then
    some (true)
  else
    (database_is F u_1 [10498]).bind fun x_6 =>
    some (x_6)).bind fun z_4 =>
  some z_4

def database_chosen (F : Nat) (u_1 : T_api_UUID) (props_2 : Int) (perms_3 : Int) (value_4 : (List Int)) : Option (Int) :=
  (database_reserved F u_1).bind fun x_5 =>
  if x_5 = true then
    some 1
  else
    if ((((decide (props_2 < 0)) || (decide (props_2 > 255))) || (decide (perms_3 < 0))) || (decide (perms_3 > 15))) = true then
      some 5
    else
      if (decide ((len value_4) > 512)) = true then
        some 4
      else
        some 0

def database_told (F : Nat) (c_1 : T_api_Char) : Option (Bool) :=
  some ((iand .i64 c_1.Props 48) != 0)

def database_count_j1 (F : Nat) (x_2 : Int) : Option (Int × Int) :=
  some (x_2, 0)

def database_count_j2 (F : Nat) (x_4 : Int) (x_5 : Int) : Option (Out (Int × Int) (Sum (Int) (Int × Int))) :=
  some (.next (x_5, w64 (x_4 + 1)))

def database_count_j3 (F : Nat) (x_8 : Int) (x_9 : Int) : Option (Out (Int × Int) (Sum (Int) (Int × Int))) :=
  some (.next (x_9, w64 (x_8 + 1)))

def database_count_l3 (F : Nat) (x_10 : T_api_Char) (x_12 : Int) (x_13 : Int) : Option (Out (Int) (Sum (Int) (Int × Int))) :=
  if (decide (x_13 < (len x_10.More))) = true then
    (idx x_10.More x_13).bind fun x_14 =>
    (database_chosen F x_14.f_Type 0 x_14.Perms x_14.Value).bind fun x_15 =>
    if (x_15 != 0) = true then
      some (.done (.inr (0, x_15)))
    else
      some (.next (w64 (x_13 + 1)))
  else
    some (.done (.inl (x_12)))

def database_count_j4 (F : Nat) (x_8 : Int) (x_10 : T_api_Char) (x_12 : Int) : Option (Out (Int × Int) (Sum (Int) (Int × Int))) :=
  (iter (fun s => database_count_l3 F x_10 x_12 s) F (0)).bind fun o =>
  match o with
  | .inl u => database_count_j3 F x_8 u
  | .inr u => some (.done (.inr u))

def database_count_l2 (F : Nat) (x_6 : T_api_Service) (x_7 : Int) (x_8 : Int) : Option (Out (Int × Int) (Sum (Int) (Int × Int))) :=
  if (decide (x_8 < (len x_6.Chars))) = true then
    (idx x_6.Chars x_8).bind fun x_10 =>
    (database_chosen F x_10.f_Type x_10.Props x_10.Perms x_10.Value).bind fun x_11 =>
    if (x_11 != 0) = true then
      some (.done (.inr (0, x_11)))
    else
      (database_told F x_10).bind fun x_16 =>
      if x_16 = true then
        database_count_j4 F x_8 x_10 (w64 ((w64 (x_7 + (w64 (2 + (len x_10.More))))) + 1))
      else
        database_count_j4 F x_8 x_10 (w64 (x_7 + (w64 (2 + (len x_10.More)))))
  else
    some (.done (.inl (x_7)))

def database_count_l1 (F : Nat) (l_1 : (List T_api_Service)) (x_3 : Int) (x_4 : Int) : Option (Out (Int × Int) (Sum (Int) (Int × Int))) :=
  if (decide (x_4 < (len l_1))) = true then
    (idx l_1 x_4).bind fun x_6 =>
    (iter (fun s => database_count_l2 F x_6 s.1 s.2) F (w64 (x_3 + 1), 0)).bind fun o =>
    match o with
    | .inl u => database_count_j2 F x_4 u
    | .inr u => some (.done (.inr u))
  else
    some (.done (.inl (x_3)))

def database_count (F : Nat) (l_1 : (List T_api_Service)) : Option (Int × Int) :=
  (iter (fun s => database_count_l1 F l_1 s.1 s.2) F (0, 0)).bind fun o =>
  match o with
  | .inl u => database_count_j1 F u
  | .inr u => some u

def uuid_Short (F : Nat) (n_1 : Int) : Option (T_api_UUID) :=
  some (T_api_UUID.mk (ior .u64 (shlp .u64 (wu64 n_1) 32) 4096) 9223372588214596859)

def octets_Join_j1 (F : Nat) (l_2 : (List Int)) : Option ((List Int)) :=
  some l_2

def octets_Join_l1 (F : Nat) (parts_1 : (List (List Int))) (l_3 : (List Int)) (x_4 : Int) : Option (Out ((List Int) × Int) ((List Int))) :=
  if (decide (x_4 < (len parts_1))) = true then
    (idx parts_1 x_4).bind fun x_5 =>
    (app 1 l_3 x_5).bind fun l_6 =>
    some (.next (l_6, w64 (x_4 + 1)))
  else
    some (.done (l_3))

def octets_Join (F : Nat) (parts_1 : (List (List Int))) : Option ((List Int)) :=
  (iter (fun s => octets_Join_l1 F parts_1 s.1 s.2) F ([], 0)).bind fun o =>
  octets_Join_j1 F o

def uuid_Encode (F : Nat) (u_1 : T_api_UUID) : Option ((List Int)) :=
  (uuid_Number F u_1).bind fun x_2 =>
  if x_2.2 = true then
    some [wu8 x_2.1, wu8 (shrp x_2.1 8)]
  else
    (uuid_bytes F u_1).bind fun x_3 =>
    (octets_Join F [[x_3.1, x_3.2.1, x_3.2.2.1, x_3.2.2.2.1, x_3.2.2.2.2.1, x_3.2.2.2.2.2.1, x_3.2.2.2.2.2.2.1, x_3.2.2.2.2.2.2.2.1, x_3.2.2.2.2.2.2.2.2.1, x_3.2.2.2.2.2.2.2.2.2.1, x_3.2.2.2.2.2.2.2.2.2.2.1, x_3.2.2.2.2.2.2.2.2.2.2.2.1, x_3.2.2.2.2.2.2.2.2.2.2.2.2.1, x_3.2.2.2.2.2.2.2.2.2.2.2.2.2.1, x_3.2.2.2.2.2.2.2.2.2.2.2.2.2.2.1, x_3.2.2.2.2.2.2.2.2.2.2.2.2.2.2.2]]).bind fun x_4 =>
    some x_4

def database_Build_1_j1 (F : Nat) (p_5 : Int) (l_6 : (List T_api_Attribute)) : Option ((List T_api_Attribute) × Int) :=
  some (l_6, wu16 (p_5 + 1))

def database_Build_1 (F : Nat) (u_1 : T_api_UUID) (perms_2 : Int) (parts_3 : (List (List Int))) (p_4 : (List T_api_Attribute)) (p_5 : Int) : Option ((List T_api_Attribute) × Int) :=
  (octets_Join F parts_3).bind fun x_409 =>
  (app 56 p_4 [(T_api_Attribute.mk p_5 u_1 perms_2 x_409)]).bind fun l_649 =>
  database_Build_1_j1 F p_5 l_649

def database_Build_j1 (F : Nat) (l_4 : (List T_api_Attribute)) : Option ((List T_api_Attribute) × Int) :=
  some (l_4, 0)

def database_Build_j2 (F : Nat) (x_7 : Int) (l_8 : (List T_api_Attribute)) (x_9 : Int) : Option (Out ((List T_api_Attribute) × Int × Int) ((List T_api_Attribute))) :=
  some (.next (l_8, x_9, w64 (x_7 + 1)))

def database_Build_j5 (F : Nat) (x_16 : Int) (l_17 : (List T_api_Attribute)) (x_18 : Int) : Option (Out ((List T_api_Attribute) × Int × Int) ((List T_api_Attribute) × Int)) :=
  some (.next (l_17, x_18, w64 (x_16 + 1)))

def database_Build_l3 (F : Nat) (x_19 : T_api_Char) (l_25 : (List T_api_Attribute)) (x_26 : Int) (x_27 : Int) : Option (Out ((List T_api_Attribute) × Int × Int) ((List T_api_Attribute) × Int)) :=
  if (decide (x_27 < (len x_19.More))) = true then
    (idx x_19.More x_27).bind fun x_28 =>
    (database_Build_1 F x_28.f_Type x_28.Perms [x_28.Value] l_25 x_26).bind fun x_29 =>
    some (.next (x_29.1, x_29.2, w64 (x_27 + 1)))
  else
    some (.done (l_25, x_26))

def database_Build_j7 (F : Nat) (x_16 : Int) (x_19 : T_api_Char) (l_23 : (List T_api_Attribute)) (x_24 : Int) : Option (Out ((List T_api_Attribute) × Int × Int) ((List T_api_Attribute) × Int)) :=
  (iter (fun s => database_Build_l3 F x_19 s.1 s.2.1 s.2.2) F (l_23, x_24, 0)).bind fun o =>
  database_Build_j5 F x_16 o.1 o.2

def database_Build_j6 (F : Nat) (x_16 : Int) (x_19 : T_api_Char) (l_20 : (List T_api_Attribute)) (x_21 : Int) : Option (Out ((List T_api_Attribute) × Int × Int) ((List T_api_Attribute) × Int)) :=
  (database_Build_1 F x_19.f_Type x_19.Perms [x_19.Value] l_20 x_21).bind fun x_22 =>
  (database_told F x_19).bind fun x_30 =>
  if x_30 = true then
    (uuid_Short F 10498).bind fun x_31 =>
    (database_Build_1 F x_31 3 [[0, 0]] x_22.1 x_22.2).bind fun x_32 =>
    database_Build_j7 F x_16 x_19 x_32.1 x_32.2
  else
    database_Build_j7 F x_16 x_19 x_22.1 x_22.2

def database_Build_l2 (F : Nat) (x_10 : T_api_Service) (l_14 : (List T_api_Attribute)) (x_15 : Int) (x_16 : Int) : Option (Out ((List T_api_Attribute) × Int × Int) ((List T_api_Attribute) × Int)) :=
  if (decide (x_16 < (len x_10.Chars))) = true then
    (idx x_10.Chars x_16).bind fun x_19 =>
    (uuid_Short F 10243).bind fun x_115 =>
    (uuid_Encode F x_19.f_Type).bind fun x_1075 =>
    (database_Build_1 F x_115 1 [[wu8 x_19.Props, wu8 (wu16 (x_15 + 1)), wu8 (shrp (wu16 (x_15 + 1)) 8)], x_1075] l_14 x_15).bind fun x_1235 =>
    database_Build_j6 F x_16 x_19 x_1235.1 x_1235.2
  else
    some (.done (l_14, x_15))

def database_Build_j4 (F : Nat) (x_7 : Int) (x_10 : T_api_Service) (l_12 : (List T_api_Attribute)) (x_13 : Int) : Option (Out ((List T_api_Attribute) × Int × Int) ((List T_api_Attribute))) :=
  (iter (fun s => database_Build_l2 F x_10 s.1 s.2.1 s.2.2) F (l_12, x_13, 0)).bind fun o =>
  database_Build_j2 F x_7 o.1 o.2

def database_Build_j3 (F : Nat) (l_5 : (List T_api_Attribute)) (x_6 : Int) (x_7 : Int) (x_10 : T_api_Service) (x_11 : Int) : Option (Out ((List T_api_Attribute) × Int × Int) ((List T_api_Attribute))) :=
  (uuid_Short F x_11).bind fun x_1397 =>
  (uuid_Encode F x_10.f_Type).bind fun x_1398 =>
  (database_Build_1 F x_1397 1 [x_1398] l_5 x_6).bind fun x_1399 =>
  database_Build_j4 F x_7 x_10 x_1399.1 x_1399.2

def database_Build_l1 (F : Nat) (l_1 : (List T_api_Service)) (l_5 : (List T_api_Attribute)) (x_6 : Int) (x_7 : Int) : Option (Out ((List T_api_Attribute) × Int × Int) ((List T_api_Attribute))) :=
  if (decide (x_7 < (len l_1))) = true then
    (idx l_1 x_7).bind fun x_10 =>
    if x_10.Primary = true then
      database_Build_j3 F l_5 x_6 x_7 x_10 10240
    else
      database_Build_j3 F l_5 x_6 x_7 x_10 10241
  else
    some (.done (l_5))

def database_Build (F : Nat) (l_1 : (List T_api_Service)) (first_2 : Int) : Option ((List T_api_Attribute) × Int) :=
  if (first_2 == 0) = true then
    some ([], 5)
  else
    (database_count F l_1).bind fun x_3 =>
    if (x_3.2 != 0) = true then
      some ([], x_3.2)
    else
      if (decide (x_3.1 > 1000)) = true then
        some ([], 4)
      else
        if (decide ((w64 ((w64 ((w64 first_2) + x_3.1)) - 1)) > 65535)) = true then
          some ([], 8)
        else
          (iter (fun s => database_Build_l1 F l_1 s.1 s.2.1 s.2.2) F ([], first_2, 0)).bind fun o =>
          database_Build_j1 F o

def database_copied (F : Nat) (a_1 : T_api_Attribute) : Option (T_api_Attribute) :=
  (octets_Join F [a_1.Value]).bind fun x_2 =>
  some ({ a_1 with Value := x_2 })

def database_Find_1 (F : Nat) (a_1 : T_api_Attribute) (p_2 : Int) : Option (Bool × Int) :=
  some ((a_1.Handle == p_2), p_2)

def slices_IndexFunc_api_Attribute_api_Attribute_at53_j1 (F : Nat) (x_3 : Int) : Option (Int × Int) :=
  some ((-1), x_3)

def slices_IndexFunc_api_Attribute_api_Attribute_at53_l1 (F : Nat) (s_1 : (List T_api_Attribute)) (x_4 : Int) (x_5 : Int) : Option (Out (Int × Int) (Sum (Int) (Int × Int))) :=
  if (decide (x_5 < (len s_1))) = true then
    (idx s_1 x_5).bind fun x_6 =>
    (database_Find_1 F x_6 x_4).bind fun x_7 =>
    if x_7.1 = true then
      some (.done (.inr (x_5, x_7.2)))
    else
      some (.next (x_7.2, w64 (x_5 + 1)))
  else
    some (.done (.inl (x_4)))

def slices_IndexFunc_api_Attribute_api_Attribute_at53 (F : Nat) (s_1 : (List T_api_Attribute)) (c_2 : Int) : Option (Int × Int) :=
  (iter (fun s => slices_IndexFunc_api_Attribute_api_Attribute_at53_l1 F s_1 s.1 s.2) F (c_2, 0)).bind fun o =>
  match o with
  | .inl u => slices_IndexFunc_api_Attribute_api_Attribute_at53_j1 F u
  | .inr u => some u

def database_Find (F : Nat) (db_1 : (List T_api_Attribute)) (handle_2 : Int) : Option (Int) :=
  (slices_IndexFunc_api_Attribute_api_Attribute_at53 F db_1 handle_2).bind fun x_3 =>
  some x_3.1

def database_Set_j1 (F : Nat) (handle_2 : Int) (value_3 : (List Int)) (l_4 : (List T_api_Attribute)) : Option ((List T_api_Attribute) × Int) :=
  (database_Find F l_4 handle_2).bind fun x_5 =>
  if (decide (x_5 < 0)) = true then
    some (l_4, 6)
  else
    (idx l_4 x_5).bind fun x_6 =>
    (database_reserved F x_6.f_Type).bind fun x_7 =>
    if x_7 = true then
      some (l_4, 14)
    else
      if (decide ((len value_3) > 512)) = true then
        some (l_4, 4)
      else
        none

def database_Set_l1 (F : Nat) (db_1 : (List T_api_Attribute)) (l_8 : (List T_api_Attribute)) (x_9 : Int) : Option (Out ((List T_api_Attribute) × Int) ((List T_api_Attribute))) :=
  if (decide (x_9 < (len db_1))) = true then
    (idx db_1 x_9).bind fun x_10 =>
    (database_copied F x_10).bind fun x_11 =>
    (app 56 l_8 [x_11]).bind fun l_12 =>
    some (.next (l_12, w64 (x_9 + 1)))
  else
    some (.done (l_8))

def database_Set (F : Nat) (db_1 : (List T_api_Attribute)) (handle_2 : Int) (value_3 : (List Int)) : Option ((List T_api_Attribute) × Int) :=
  (iter (fun s => database_Set_l1 F db_1 s.1 s.2) F ([], 0)).bind fun o =>
  database_Set_j1 F handle_2 value_3 o

def database_Group_j1 (F : Nat) (db_1 : (List T_api_Attribute)) (x_6 : Int) : Option (Int × Bool) :=
  (idx db_1 x_6).bind fun x_7 =>
  some (x_7.Handle, true)

def database_Group_l1 (F : Nat) (db_1 : (List T_api_Attribute)) (x_8 : Int) : Option (Out (Int) (Int)) :=
  (if (decide ((w64 (x_8 + 1)) < (len db_1))) = true then
    (idx db_1 (w64 (x_8 + 1))).bind fun x_12 =>
    (database_service F x_12.f_Type).bind fun x_13 =>
    some ((!x_13))
  else
    some (false)).bind fun z_10 =>
  if z_10 = true then
    some (.next (w64 (x_8 + 1)))
  else
    some (.done (x_8))

def database_Group (F : Nat) (db_1 : (List T_api_Attribute)) (handle_2 : Int) : Option (Int × Bool) :=
  (database_Find F db_1 handle_2).bind fun x_3 =>
  (if (decide (x_3 < 0)) = true then
    some (true)
  else
    (idx db_1 x_3).bind fun x_15 =>
    (database_service F x_15.f_Type).bind fun x_16 =>
    some ((!x_16))).bind fun z_5 =>
  if z_5 = true then
    some (0, false)
  else
    (iter (fun s => database_Group_l1 F db_1 s) F (x_3)).bind fun o =>
    database_Group_j1 F db_1 o

def uuid_Decode_j1 (F : Nat) (c_4 : T_api_UUID) : Option (T_api_UUID × Int) :=
  some (c_4, 0)

def uuid_Decode_j2 (F : Nat) (c_12 : T_api_UUID) : Option (T_api_UUID × Int) :=
  (uuid_Number F c_12).bind fun x_13 =>
  if x_13.2 = true then
    some ((T_api_UUID.mk 0 0), 2)
  else
    some (c_12, 0)

def uuid_Decode_j3 (F : Nat) (b_1 : (List Int)) (c_16 : T_api_UUID) (x_17 : Int) (x_18 : Int) : Option (Out (T_api_UUID × Int) (T_api_UUID)) :=
  (idx b_1 (w64 (8 + x_17))).bind fun x_19 =>
  (ishl .u64 (wu64 x_19) (w64 (8 * x_17))).bind fun x_22 =>
  some (.next ((T_api_UUID.mk (ior .u64 c_16.High x_22) x_18), w64 (x_17 + 1)))

def uuid_Decode_l1 (F : Nat) (b_1 : (List Int)) (c_16 : T_api_UUID) (x_17 : Int) : Option (Out (T_api_UUID × Int) (T_api_UUID)) :=
  if (decide (x_17 < 8)) = true then
    (idx b_1 x_17).bind fun x_23 =>
    (ishl .u64 (wu64 x_23) (w64 (8 * x_17))).bind fun x_26 =>
    uuid_Decode_j3 F b_1 c_16 x_17 (ior .u64 c_16.Low x_26)
  else
    some (.done (c_16))

def uuid_Decode (F : Nat) (b_1 : (List Int)) : Option (T_api_UUID × Int) :=
  if ((len b_1) == 2) = true then
    (idx b_1 0).bind fun x_5 =>
    (idx b_1 1).bind fun x_6 =>
    (uuid_Short F (ior .u16 (wu16 x_5) (shlp .u16 (wu16 x_6) 8))).bind fun x_9 =>
    uuid_Decode_j1 F x_9
  else
    if (decide ((len b_1) < 16)) = true then
      some ((T_api_UUID.mk 0 0), 3)
    else
      if (decide ((len b_1) > 16)) = true then
        some ((T_api_UUID.mk 0 0), 2)
      else
        (iter (fun s => uuid_Decode_l1 F b_1 s.1 s.2) F ((T_api_UUID.mk 0 0), 0)).bind fun o =>
        uuid_Decode_j2 F o

def database_described_j1 (F : Nat) (x_3 : T_api_UUID × Int) (x_4 : Int) (x_5 : Int) : Option (Int × Int × T_api_UUID × Bool) :=
  some (x_4, x_5, x_3.1, true)

def database_described (F : Nat) (b_1 : (List Int)) : Option (Int × Int × T_api_UUID × Bool) :=
  if (decide ((len b_1) < 3)) = true then
    some (0, 0, (T_api_UUID.mk 0 0), false)
  else
    (sub b_1 3 (len b_1)).bind fun l_2 =>
    (uuid_Decode F l_2).bind fun x_3 =>
    if (x_3.2 != 0) = true then
      some (0, 0, (T_api_UUID.mk 0 0), false)
    else
      (idx b_1 0).bind fun x_6 =>
      (idx b_1 1).bind fun x_7 =>
      (idx b_1 2).bind fun x_8 =>
      database_described_j1 F x_3 (w64 x_6) (ior .u16 (wu16 x_7) (shlp .u16 (wu16 x_8) 8))

def database_Found_j1 (F : Nat) (l_2 : (List T_api_Found)) : Option ((List T_api_Found)) :=
  some l_2

def database_Found_j2 (F : Nat) (x_4 : Int) (l_5 : (List T_api_Found)) : Option (Out ((List T_api_Found) × Int) ((List T_api_Found))) :=
  some (.next (l_5, w64 (x_4 + 1)))

def database_Found_j3 (F : Nat) (l_3 : (List T_api_Found)) (x_4 : Int) (x_6 : T_api_Attribute) (c_12 : T_api_Found) : Option (Out ((List T_api_Found) × Int) ((List T_api_Found))) :=
  (app 32 l_3 [{ c_12 with Handle := x_6.Handle }]).bind fun l_13 =>
  database_Found_j2 F x_4 l_13

def database_Found_l1 (F : Nat) (db_1 : (List T_api_Attribute)) (l_3 : (List T_api_Found)) (x_4 : Int) : Option (Out ((List T_api_Found) × Int) ((List T_api_Found))) :=
  if (decide (x_4 < (len db_1))) = true then
    (idx db_1 x_4).bind fun x_6 =>
    (if (decide (x_4 > 0)) = true then
      (idx db_1 (w64 (x_4 - 1))).bind fun x_22 =>
      (database_is F x_22.f_Type [10243]).bind fun x_23 =>
      some (x_23)
    else
      some (false)).bind fun z_15 =>
    if z_15 = true then
      database_Found_j2 F x_4 l_3
    else
      (database_service F x_6.f_Type).bind fun x_16 =>
      if x_16 = true then
        (database_Group F db_1 x_6.Handle).bind fun x_17 =>
        (uuid_Decode F x_6.Value).bind fun x_18 =>
        database_Found_j3 F l_3 x_4 x_6 (T_api_Found.mk x_6.Handle x_17.1 0 0 x_18.1)
      else
        (database_is F x_6.f_Type [10243]).bind fun x_19 =>
        if x_19 = true then
          (database_described F x_6.Value).bind fun x_20 =>
          database_Found_j3 F l_3 x_4 x_6 (T_api_Found.mk x_6.Handle 0 x_20.2.1 x_20.1 x_20.2.2.1)
        else
          database_Found_j3 F l_3 x_4 x_6 (T_api_Found.mk x_6.Handle 0 0 0 x_6.f_Type)
  else
    some (.done (l_3))

def database_Found (F : Nat) (db_1 : (List T_api_Attribute)) : Option ((List T_api_Found)) :=
  (iter (fun s => database_Found_l1 F db_1 s.1 s.2) F ([], 0)).bind fun o =>
  database_Found_j1 F o

def wirelessref23_Same (F : Nat) (a_1 : (List Int)) (b_2 : (List Int)) : Option (Bool) :=
  some ((str a_1) == (str b_2))

def database_wrong_j2 (F : Nat) (z_10 : Bool) : Option (Bool) :=
  some z_10

def database_wrong_j1 (F : Nat) (db_1 : (List T_api_Attribute)) (i_2 : Int) (at_3 : T_database_place) (x_4 : T_api_Attribute) (z_5 : Bool) : Option (Bool) :=
  if z_5 = true then
    some true
  else
    (database_service F x_4.f_Type).bind fun x_6 =>
    if x_6 = true then
      (uuid_Decode F x_4.Value).bind fun x_7 =>
      some (x_7.2 != 0)
    else
      (database_is F x_4.f_Type [10243]).bind fun x_8 =>
      if x_8 = true then
        (database_described F x_4.Value).bind fun x_9 =>
        if (!x_9.2.2.2) = true then
          if (true || (decide ((w64 (i_2 + 1)) ≥ (len db_1)))) = true then
            database_wrong_j2 F true
          else
            (idx db_1 (w64 (i_2 + 1))).bind fun x_15 =>
            if (x_15.Handle != x_9.2.1) = true then
              database_wrong_j2 F true
            else
              (idx db_1 (w64 (i_2 + 1))).bind fun x_17 =>
              database_wrong_j2 F (!((x_17.f_Type.High == x_9.2.2.1.High) && (x_17.f_Type.Low == x_9.2.2.1.Low)))
        else
          (database_reserved F x_9.2.2.1).bind fun x_18 =>
          if (x_18 || (decide ((w64 (i_2 + 1)) ≥ (len db_1)))) = true then
            database_wrong_j2 F true
          else
            (idx db_1 (w64 (i_2 + 1))).bind fun x_20 =>
            if (x_20.Handle != x_9.2.1) = true then
              database_wrong_j2 F true
            else
              (idx db_1 (w64 (i_2 + 1))).bind fun x_22 =>
              database_wrong_j2 F (!((x_22.f_Type.High == x_9.2.2.1.High) && (x_22.f_Type.Low == x_9.2.2.1.Low)))
      else
        (database_is F x_4.f_Type [10498]).bind fun x_23 =>
        if x_23 = true then
          some ((((len x_4.Value) != 2) || (!at_3.char)) || at_3.config)
        else
          some false

def database_wrong (F : Nat) (db_1 : (List T_api_Attribute)) (i_2 : Int) (at_3 : T_database_place) : Option (Bool) :=
  (idx db_1 i_2).bind fun x_4 =>
  (if (i_2 == 0) = true then
    (database_service F x_4.f_Type).bind fun x_28 =>
    some ((!x_28))
  else
    some (false)).bind fun z_25 =>
  if z_25 = true then
    database_wrong_j1 F db_1 i_2 at_3 x_4 z_25
  else
    (database_declaration F x_4.f_Type).bind fun x_26 =>
    database_wrong_j1 F db_1 i_2 at_3 x_4 (x_26 && ((iand .i64 x_4.Perms 2) != 0))

def database_Check_j1 (F : Nat) : Option (Int) :=
  some 0

def database_Check_j2 (F : Nat) (x_6 : Int) (x_7 : Int) (c_10 : T_database_place) : Option (Out (Int × T_database_place × Int) (Sum (Unit) (Int))) :=
  some (.next (x_7, c_10, w64 (x_6 + 1)))

def database_Check_l1 (F : Nat) (db_1 : (List T_api_Attribute)) (x_2 : Int) (c_5 : T_database_place) (x_6 : Int) : Option (Out (Int × T_database_place × Int) (Sum (Unit) (Int))) :=
  if (decide (x_6 < (len db_1))) = true then
    (idx db_1 x_6).bind fun x_11 =>
    if (decide (x_11.Handle ≤ x_2)) = true then
      some (.done (.inr 13))
    else
      if ((decide (x_11.Perms < 0)) || (decide (x_11.Perms > 15))) = true then
        some (.done (.inr 5))
      else
        if (decide ((len x_11.Value) > 512)) = true then
          some (.done (.inr 4))
        else
          (database_wrong F db_1 x_6 c_5).bind fun x_12 =>
          if x_12 = true then
            some (.done (.inr 1))
          else
            (database_service F x_11.f_Type).bind fun x_13 =>
            if x_13 = true then
              database_Check_j2 F x_6 x_11.Handle (T_database_place.mk false false)
            else
              (database_is F x_11.f_Type [10243]).bind fun x_14 =>
              if x_14 = true then
                database_Check_j2 F x_6 x_11.Handle (T_database_place.mk true false)
              else
                (database_is F x_11.f_Type [10498]).bind fun x_15 =>
                if x_15 = true then
                  database_Check_j2 F x_6 x_11.Handle ({ c_5 with config := true })
                else
                  database_Check_j2 F x_6 x_11.Handle c_5
  else
    some (.done (.inl ()))

def database_Check (F : Nat) (db_1 : (List T_api_Attribute)) : Option (Int) :=
  if (decide ((len db_1) > 1000)) = true then
    some 4
  else
    (iter (fun s => database_Check_l1 F db_1 s.1 s.2.1 s.2.2) F (0, (T_database_place.mk false false), 0)).bind fun o =>
    match o with
    | .inl u => database_Check_j1 F
    | .inr u => some u

def wirelesslaw43_exampleHolds_j1 (F : Nat) (z_7 : Bool) : Option (Bool) :=
  some z_7

def wirelesslaw43_exampleHolds (F : Nat) : Option (Bool) :=
  (wirelesslaw43_sample F).bind fun x_1 =>
  (database_Build F x_1 1).bind fun x_2 =>
  (database_Set F x_2.1 4 []).bind fun x_3 =>
  (database_Set F x_2.1 5 []).bind fun x_4 =>
  (database_Found F x_2.1).bind fun x_5 =>
  if (((((x_2.2 != 0) || ((len x_2.1) != 4)) || ((len x_5) != 3)) || (x_3.2 != 14)) || (x_4.2 != 6)) = true then
    some false
  else
    (database_Group F x_2.1 1).bind fun x_6 =>
    if ((x_6.1 == 4) && x_6.2) = true then
      (idx x_2.1 0).bind fun x_571 =>
      (wirelessref23_Same F x_571.Value [1, 24]).bind fun x_891 =>
      if x_891 = true then
        (idx x_2.1 1).bind fun x_6012 =>
        (wirelessref23_Same F x_6012.Value [32, 3, 0, 5, 42]).bind fun x_6332 =>
        if x_6332 = true then
          (idx x_2.1 3).bind fun x_9613 =>
          if ((len x_9613.Value) == 2) = true then
            (idx x_5 0).bind fun x_12095 =>
            (wirelessref41_Short F 6145).bind fun x_12255 =>
            if ((x_12095.Handle == 1) && ((x_12095.Last == 4) && ((x_12095.Value == 0) && ((x_12095.Props == 0) && ((x_12095.f_Type.High == x_12255.High) && (x_12095.f_Type.Low == x_12255.Low)))))) = true then
              (idx x_5 1).bind fun x_17536 =>
              (wirelessref41_Short F 10757).bind fun x_17696 =>
              if ((x_17536.Handle == 2) && ((x_17536.Last == 0) && ((x_17536.Value == 3) && ((x_17536.Props == 32) && ((x_17536.f_Type.High == x_17696.High) && (x_17536.f_Type.Low == x_17696.Low)))))) = true then
                (idx x_5 2).bind fun x_22977 =>
                (wirelessref41_Short F 10498).bind fun x_23137 =>
                if ((x_22977.Handle == 4) && ((x_22977.Last == 0) && ((x_22977.Value == 0) && ((x_22977.Props == 0) && ((x_22977.f_Type.High == x_23137.High) && (x_22977.f_Type.Low == x_23137.Low)))))) = true then
                  (database_Check F x_2.1).bind fun x_24018 =>
                  wirelesslaw43_exampleHolds_j1 F (x_24018 == 0)
                else
                  wirelesslaw43_exampleHolds_j1 F false
              else
                wirelesslaw43_exampleHolds_j1 F false
            else
              wirelesslaw43_exampleHolds_j1 F false
          else
            wirelesslaw43_exampleHolds_j1 F false
        else
          wirelesslaw43_exampleHolds_j1 F false
      else
        wirelesslaw43_exampleHolds_j1 F false
    else
      wirelesslaw43_exampleHolds_j1 F false

def wirelesslaw43_DatabaseDescribes_j2 (F : Nat) (x_5 : (List T_api_Attribute) × Int) (x_10 : (List T_api_Found)) (x_11 : Int) : Option (Bool) :=
  (if (x_11 == (len x_10)) = true then
    (database_Check F x_5.1).bind fun x_19 =>
    some ((x_19 == 0))
  else
    some (false)).bind fun z_13 =>
  (if z_13 = true then
    (wirelesslaw43_exampleHolds F).bind fun x_17 =>
    some (x_17)
  else
    some (false)).bind fun z_15 =>
  some z_15

def wirelesslaw43_DatabaseDescribes_j3 (F : Nat) (x_21 : Int) (x_22 : Int) : Option (Out (Int × Int) (Sum (Int) (Bool))) :=
  some (.next (x_22, w64 (x_21 + 1)))

def wirelesslaw43_DatabaseDescribes_j5 (F : Nat) (x_25 : Int) (x_27 : Int) : Option (Out (Int × Int) (Sum (Int) (Bool))) :=
  some (.next (x_27, w64 (x_25 + 1)))

def wirelesslaw43_DatabaseDescribes_j8 (F : Nat) (x_32 : Int) (x_33 : Int) (z_34 : Bool) : Option (Out (Int × Int) (Sum (Int) (Bool))) :=
  if z_34 = true then
    some (.done (.inr false))
  else
    some (.next (w64 (x_32 + 1), w64 (x_33 + 1)))

def wirelesslaw43_DatabaseDescribes_l3 (F : Nat) (x_10 : (List T_api_Found)) (x_29 : T_api_Char) (x_32 : Int) (x_33 : Int) : Option (Out (Int × Int) (Sum (Int) (Bool))) :=
  if (decide (x_33 < (len x_29.More))) = true then
    if (decide (x_32 ≥ (len x_10))) = true then
      wirelesslaw43_DatabaseDescribes_j8 F x_32 x_33 true
    else
      (idx x_10 x_32).bind fun x_598 =>
      (idx x_29.More x_33).bind fun x_1078 =>
      if (!((x_598.f_Type.High == x_1078.f_Type.High) && (x_598.f_Type.Low == x_1078.f_Type.Low))) = true then
        wirelesslaw43_DatabaseDescribes_j8 F x_32 x_33 true
      else
        (idx x_10 x_32).bind fun x_2839 =>
        if (x_2839.Last != 0) = true then
          wirelesslaw43_DatabaseDescribes_j8 F x_32 x_33 true
        else
          (idx x_10 x_32).bind fun x_2841 =>
          wirelesslaw43_DatabaseDescribes_j8 F x_32 x_33 (x_2841.Value != 0)
  else
    some (.done (.inl (x_32)))

def wirelesslaw43_DatabaseDescribes_j7 (F : Nat) (x_10 : (List T_api_Found)) (x_25 : Int) (x_29 : T_api_Char) (x_31 : Int) : Option (Out (Int × Int) (Sum (Int) (Bool))) :=
  (iter (fun s => wirelesslaw43_DatabaseDescribes_l3 F x_10 x_29 s.1 s.2) F (x_31, 0)).bind fun o =>
  match o with
  | .inl u => wirelesslaw43_DatabaseDescribes_j5 F x_25 u
  | .inr u => some (.done (.inr u))

def wirelesslaw43_DatabaseDescribes_j6 (F : Nat) (x_10 : (List T_api_Found)) (x_24 : Int) (x_25 : Int) (x_29 : T_api_Char) (z_30 : Bool) : Option (Out (Int × Int) (Sum (Int) (Bool))) :=
  if z_30 = true then
    some (.done (.inr false))
  else
    if ((iand .i64 x_29.Props 48) != 0) = true then
      wirelesslaw43_DatabaseDescribes_j7 F x_10 x_25 x_29 (w64 ((w64 (x_24 + 1)) + 1))
    else
      wirelesslaw43_DatabaseDescribes_j7 F x_10 x_25 x_29 (w64 (x_24 + 1))

def wirelesslaw43_DatabaseDescribes_l2 (F : Nat) (l_1 : (List T_api_Service)) (x_10 : (List T_api_Found)) (x_21 : Int) (x_24 : Int) (x_25 : Int) : Option (Out (Int × Int) (Sum (Int) (Bool))) :=
  (idx l_1 x_21).bind fun x_26 =>
  if (decide (x_25 < (len x_26.Chars))) = true then
    (idx l_1 x_21).bind fun x_28 =>
    (idx x_28.Chars x_25).bind fun x_29 =>
    if (decide (x_24 ≥ (len x_10))) = true then
      wirelesslaw43_DatabaseDescribes_j6 F x_10 x_24 x_25 x_29 true
    else
      (idx x_10 x_24).bind fun x_2845 =>
      if (x_2845.Value == 0) = true then
        wirelesslaw43_DatabaseDescribes_j6 F x_10 x_24 x_25 x_29 true
      else
        (idx x_10 x_24).bind fun x_2847 =>
        if (x_2847.Props != x_29.Props) = true then
          wirelesslaw43_DatabaseDescribes_j6 F x_10 x_24 x_25 x_29 true
        else
          (idx x_10 x_24).bind fun x_2849 =>
          wirelesslaw43_DatabaseDescribes_j6 F x_10 x_24 x_25 x_29 (!((x_2849.f_Type.High == x_29.f_Type.High) && (x_2849.f_Type.Low == x_29.f_Type.Low)))
  else
    some (.done (.inl (x_24)))

def wirelesslaw43_DatabaseDescribes_j4 (F : Nat) (l_1 : (List T_api_Service)) (x_10 : (List T_api_Found)) (x_20 : Int) (x_21 : Int) (z_23 : Bool) : Option (Out (Int × Int) (Sum (Int) (Bool))) :=
  if z_23 = true then
    some (.done (.inr false))
  else
    (iter (fun s => wirelesslaw43_DatabaseDescribes_l2 F l_1 x_10 x_21 s.1 s.2) F (w64 (x_20 + 1), 0)).bind fun o =>
    match o with
    | .inl u => wirelesslaw43_DatabaseDescribes_j3 F x_21 u
    | .inr u => some (.done (.inr u))

def wirelesslaw43_DatabaseDescribes_l1 (F : Nat) (l_1 : (List T_api_Service)) (x_10 : (List T_api_Found)) (x_20 : Int) (x_21 : Int) : Option (Out (Int × Int) (Sum (Int) (Bool))) :=
  if (decide (x_21 < (len l_1))) = true then
    if (decide (x_20 ≥ (len x_10))) = true then
      wirelesslaw43_DatabaseDescribes_j4 F l_1 x_10 x_20 x_21 true
    else
      (idx x_10 x_20).bind fun x_2853 =>
      if (x_2853.Last == 0) = true then
        wirelesslaw43_DatabaseDescribes_j4 F l_1 x_10 x_20 x_21 true
      else
        (idx x_10 x_20).bind fun x_4055 =>
        (idx l_1 x_21).bind fun x_4455 =>
        wirelesslaw43_DatabaseDescribes_j4 F l_1 x_10 x_20 x_21 (!((x_4055.f_Type.High == x_4455.f_Type.High) && (x_4055.f_Type.Low == x_4455.f_Type.Low)))
  else
    some (.done (.inl (x_20)))

def wirelesslaw43_DatabaseDescribes_j1 (F : Nat) (l_1 : (List T_api_Service)) (x_5 : (List T_api_Attribute) × Int) : Option (Bool) :=
  (database_Found F x_5.1).bind fun x_10 =>
  (iter (fun s => wirelesslaw43_DatabaseDescribes_l1 F l_1 x_10 s.1 s.2) F (0, 0)).bind fun o =>
  match o with
  | .inl u => wirelesslaw43_DatabaseDescribes_j2 F x_5 x_10 u
  | .inr u => some u

def wirelesslaw43_DatabaseDescribes_l4 (F : Nat) (first_2 : Int) (x_5 : (List T_api_Attribute) × Int) (x_4935 : Int) : Option (Out (Int) (Sum (Unit) (Bool))) :=
  if (decide (x_4935 < (len x_5.1))) = true then
    (idx x_5.1 x_4935).bind fun x_4936 =>
    if ((w64 x_4936.Handle) != (w64 ((w64 first_2) + x_4935))) = true then
      some (.done (.inr false))
    else
      some (.next (w64 (x_4935 + 1)))
  else
    some (.done (.inl ()))

def wirelesslaw43_DatabaseDescribes (F : Nat) (l_1 : (List T_api_Service)) (first_2 : Int) : Option (Bool) :=
  (wirelesslaw43_small F l_1).bind fun x_3 =>
  if (!x_3) = true then
    (wirelesslaw43_exampleHolds F).bind fun x_4 =>
    some x_4
  else
    (database_Build F l_1 first_2).bind fun x_5 =>
    if (x_5.2 != 0) = true then
      (if ((len x_5.1) == 0) = true then
        (wirelesslaw43_exampleHolds F).bind fun x_9 =>
        some (x_9)
      else
        some (false)).bind fun z_7 =>
      some z_7
    else
      (iter (fun s => wirelesslaw43_DatabaseDescribes_l4 F first_2 x_5 s) F (0)).bind fun o =>
      match o with
      | .inl u => wirelesslaw43_DatabaseDescribes_j1 F l_1 x_5
      | .inr u => some u

end V
end Go.Proofs.Ytchlimkophmjlaa
