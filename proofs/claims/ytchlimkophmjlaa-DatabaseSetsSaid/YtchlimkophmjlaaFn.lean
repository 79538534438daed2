/-
  Pure twins of the Go functions, written by program.
-/
import Derived.Test.YtchlimkophmjlaaPure
namespace Go.Proofs.Ytchlimkophmjlaa
namespace V
structure T_api_UUID where
  High : Int
  Low : Int

structure T_api_Attribute where
  Handle : Int
  f_Type : T_api_UUID
  Perms : Int
  Value : (List Int)

structure T_api_Char where
  f_Type : T_api_UUID
  Props : Int
  Perms : Int
  Value : (List Int)
  More : (List T_api_Attribute)

structure T_api_Service where
  f_Type : T_api_UUID
  Primary : Bool
  Chars : (List T_api_Char)

structure T_api_Found where
  Handle : Int
  Last : Int
  Value : Int
  Props : Int
  f_Type : T_api_UUID

structure T_database_place where
  char : Bool
  config : Bool

structure T_api_Field where
  Size : Int
  Value : Int

def wirelesslaw43_light_j1 (F : Nat) (db_1 : (List T_api_Attribute)) (x_2 : Int) : Option (Bool) :=
  some ((decide ((len db_1) ≤ 1100)) && (decide (x_2 ≤ 8192)))

def wirelesslaw43_light_l1 (F : Nat) (db_1 : (List T_api_Attribute)) (x_3 : Int) (x_4 : Int) : Option (Out (Int × Int) (Sum (Int) (Bool))) :=
  if ((decide (x_4 < (len db_1))) && (decide (x_4 < 1100))) = true then
    (idx db_1 x_4).bind fun x_5 =>
    if (decide ((len x_5.Value) > 8192)) = true then
      some (.done (.inr false))
    else
      (idx db_1 x_4).bind fun x_6 =>
      some (.next (w64 (x_3 + (len x_6.Value)), w64 (x_4 + 1)))
  else
    some (.done (.inl (x_3)))

def wirelesslaw43_light (F : Nat) (db_1 : (List T_api_Attribute)) : Option (Bool) :=
  (iter (fun s => wirelesslaw43_light_l1 F db_1 s.1 s.2) F (0, 0)).bind fun o =>
  match o with
  | .inl u => wirelesslaw43_light_j1 F db_1 u
  | .inr u => some u

def wirelessref41_Short (F : Nat) (n_1 : Int) : Option (T_api_UUID) :=
  some (T_api_UUID.mk (wu64 ((wu64 ((wu64 n_1) * 4294967296)) + 4096)) 9223372588214596859)

def wirelessref43_Is_j1 (F : Nat) (z_3 : Bool) : Option (Bool) :=
  some z_3

def wirelessref43_Is (F : Nat) (t_1 : T_api_UUID) (n_2 : Int) : Option (Bool) :=
  (wirelessref41_Short F n_2).bind fun x_6 =>
  wirelessref43_Is_j1 F ((t_1.High == x_6.High) && (t_1.Low == x_6.Low))

def wirelessref43_IsService (F : Nat) (a_1 : T_api_Attribute) : Option (Bool) :=
  (wirelessref43_Is F a_1.f_Type 10240).bind fun x_2 =>
  (if x_2 = true then
    some (true)
  else
    (wirelessref43_Is F a_1.f_Type 10241).bind fun x_6 =>
    some (x_6)).bind fun z_4 =>
  some z_4

def wirelessref43_declares (F : Nat) (t_1 : T_api_UUID) : Option (Bool) :=
  (wirelessref43_Is F t_1 10240).bind fun x_2 =>
  (if x_2 = true then
    some (true)
  else
    (wirelessref43_Is F t_1 10241).bind fun x_14 =>
    some (x_14)).bind fun z_4 =>
  (if z_4 = true then
    some (true)
  else
    (wirelessref43_Is F t_1 10242).bind fun x_12 =>
    some (x_12)).bind fun z_6 =>
  (if z_6 = true then
    some (true)
  else
    (wirelessref43_Is F t_1 10243).bind fun x_10 =>
    some (x_10)).bind fun z_8 =>
  some z_8

def wirelessref23_Num_j1 (F : Nat) (x_4 : Int) : Option (Int) :=
  some x_4

def wirelessref23_Num_l1 (F : Nat) (b_1 : (List Int)) (at_2 : Int) (x_5 : Int) (x_6 : Int) : Option (Out (Int × Int) (Int)) :=
  if (decide (x_6 ≥ 0)) = true then
    (idx b_1 (w64 (at_2 + x_6))).bind fun x_7 =>
    some (.next (wu64 ((wu64 (x_5 * 256)) + (wu64 x_7)), w64 (x_6 - 1)))
  else
    some (.done (x_5))

def wirelessref23_Num (F : Nat) (b_1 : (List Int)) (at_2 : Int) (size_3 : Int) : Option (Int) :=
  (iter (fun s => wirelessref23_Num_l1 F b_1 at_2 s.1 s.2) F (0, w64 (size_3 - 1))).bind fun o =>
  wirelessref23_Num_j1 F o

def wirelessref41_Number_j1 (F : Nat) (u_1 : T_api_UUID) (z_2 : Bool) : Option (Int × Bool) :=
  if z_2 = true then
    some (0, false)
  else
    some (wu16 (quop .u64 u_1.High 4294967296), true)

def wirelessref41_Number (F : Nat) (u_1 : T_api_UUID) : Option (Int × Bool) :=
  if (decide ((quop .u64 u_1.High 4294967296) > 65535)) = true then
    wirelessref41_Number_j1 F u_1 true
  else
    (wirelessref41_Short F (wu16 (quop .u64 u_1.High 4294967296))).bind fun x_6 =>
    wirelessref41_Number_j1 F u_1 (!((x_6.High == u_1.High) && (x_6.Low == u_1.Low)))

def wirelessref41_Decode (F : Nat) (b_1 : (List Int)) : Option (T_api_UUID × Int) :=
  if ((len b_1) == 2) = true then
    (wirelessref23_Num F b_1 0 2).bind fun x_2 =>
    (wirelessref41_Short F (wu16 x_2)).bind fun x_3 =>
    some (x_3, 0)
  else
    if (decide ((len b_1) < 16)) = true then
      some ((T_api_UUID.mk 0 0), 3)
    else
      if (decide ((len b_1) > 16)) = true then
        some ((T_api_UUID.mk 0 0), 2)
      else
        (wirelessref23_Num F b_1 0 8).bind fun x_4 =>
        (wirelessref23_Num F b_1 8 8).bind fun x_5 =>
        (wirelessref41_Number F (T_api_UUID.mk x_5 x_4)).bind fun x_6 =>
        if x_6.2 = true then
          some ((T_api_UUID.mk 0 0), 2)
        else
          some ((T_api_UUID.mk x_5 x_4), 0)

def wirelessref43_IsChar (F : Nat) (a_1 : T_api_Attribute) : Option (Bool) :=
  (wirelessref43_Is F a_1.f_Type 10243).bind fun x_2 =>
  some x_2

def wirelessref43_CharParts_j1 (F : Nat) (x_3 : T_api_UUID × Int) (x_4 : Int) (x_5 : Int) : Option (Int × Int × T_api_UUID × Bool) :=
  some (x_4, x_5, x_3.1, (x_3.2 == 0))

def wirelessref43_CharParts (F : Nat) (b_1 : (List Int)) : Option (Int × Int × T_api_UUID × Bool) :=
  if (decide ((len b_1) < 3)) = true then
    some (0, 0, (T_api_UUID.mk 0 0), false)
  else
    (sub b_1 3 (len b_1)).bind fun l_2 =>
    (wirelessref41_Decode F l_2).bind fun x_3 =>
    (idx b_1 0).bind fun x_6 =>
    (wirelessref23_Num F b_1 1 2).bind fun x_9 =>
    wirelessref43_CharParts_j1 F x_3 (w64 x_6) (wu16 x_9)

def wirelessref43_kept (F : Nat) (t_1 : T_api_UUID) : Option (Bool) :=
  (wirelessref43_declares F t_1).bind fun x_2 =>
  (if x_2 = true then
    some (true)
  else
    (wirelessref43_Is F t_1 10498).bind fun x_6 =>
    some (x_6)).bind fun z_4 =>
  some z_4

def wirelessref43_charWrong_j1 (F : Nat) (z_7 : Bool) : Option (Bool) :=
  some z_7

def wirelessref43_charWrong (F : Nat) (db_1 : (List T_api_Attribute)) (i_2 : Int) : Option (Bool) :=
  (idx db_1 i_2).bind fun x_3 =>
  (wirelessref43_CharParts F x_3.Value).bind fun x_4 =>
  (if (!x_4.2.2.2) = true then
    some (true)
  else
    (wirelessref43_kept F x_4.2.2.1).bind fun x_14 =>
    some (x_14)).bind fun z_6 =>
  if (z_6 || (decide ((w64 (i_2 + 1)) ≥ (len db_1)))) = true then
    some true
  else
    (idx db_1 (w64 (i_2 + 1))).bind fun x_8 =>
    if (x_8.Handle != x_4.2.1) = true then
      wirelessref43_charWrong_j1 F true
    else
      (idx db_1 (w64 (i_2 + 1))).bind fun x_12 =>
      wirelessref43_charWrong_j1 F (!((x_12.f_Type.High == x_4.2.2.1.High) && (x_12.f_Type.Low == x_4.2.2.1.Low)))

def wirelessref43_charOf_j1 (F : Nat) : Option (Int) :=
  some (-1)

def wirelessref43_charOf_l1 (F : Nat) (db_1 : (List T_api_Attribute)) (x_3 : Int) : Option (Out (Int) (Sum (Unit) (Int))) :=
  if (decide (x_3 ≥ 0)) = true then
    (idx db_1 x_3).bind fun x_4 =>
    (wirelessref43_IsChar F x_4).bind fun x_5 =>
    if x_5 = true then
      some (.done (.inr x_3))
    else
      (idx db_1 x_3).bind fun x_6 =>
      (wirelessref43_IsService F x_6).bind fun x_7 =>
      if x_7 = true then
        some (.done (.inr (-1)))
      else
        some (.next (w64 (x_3 - 1)))
  else
    some (.done (.inl ()))

def wirelessref43_charOf (F : Nat) (db_1 : (List T_api_Attribute)) (i_2 : Int) : Option (Int) :=
  (iter (fun s => wirelessref43_charOf_l1 F db_1 s) F (i_2)).bind fun o =>
  match o with
  | .inl u => wirelessref43_charOf_j1 F
  | .inr u => some u

def wirelessref43_configWrong_j1 (F : Nat) : Option (Bool) :=
  some false

def wirelessref43_configWrong_l1 (F : Nat) (db_1 : (List T_api_Attribute)) (i_2 : Int) (x_5 : Int) : Option (Out (Int) (Sum (Unit) (Bool))) :=
  if (decide (x_5 < i_2)) = true then
    (idx db_1 x_5).bind fun x_6 =>
    (wirelessref43_Is F x_6.f_Type 10498).bind fun x_7 =>
    if x_7 = true then
      some (.done (.inr true))
    else
      some (.next (w64 (x_5 + 1)))
  else
    some (.done (.inl ()))

def wirelessref43_configWrong (F : Nat) (db_1 : (List T_api_Attribute)) (i_2 : Int) : Option (Bool) :=
  (wirelessref43_charOf F db_1 i_2).bind fun x_3 =>
  (idx db_1 i_2).bind fun x_4 =>
  if (((len x_4.Value) != 2) || (decide (x_3 < 0))) = true then
    some true
  else
    (iter (fun s => wirelessref43_configWrong_l1 F db_1 i_2 s) F (x_3)).bind fun o =>
    match o with
    | .inl u => wirelessref43_configWrong_j1 F
    | .inr u => some u

def wirelessref43_wrong (F : Nat) (db_1 : (List T_api_Attribute)) (i_2 : Int) : Option (Bool) :=
  (idx db_1 i_2).bind fun x_3 =>
  (if (i_2 == 0) = true then
    (wirelessref43_IsService F x_3).bind fun x_25 =>
    some ((!x_25))
  else
    some (false)).bind fun z_5 =>
  (if z_5 = true then
    some (true)
  else
    (wirelessref43_declares F x_3.f_Type).bind fun x_22 =>
    if x_22 = true then
      some (((iand .i64 x_3.Perms 2) != 0))
    else
      some (false)).bind fun z_7 =>
  if z_7 = true then
    some true
  else
    (wirelessref43_IsService F x_3).bind fun x_8 =>
    if x_8 = true then
      (wirelessref41_Decode F x_3.Value).bind fun x_9 =>
      some (x_9.2 != 0)
    else
      (wirelessref43_IsChar F x_3).bind fun x_10 =>
      (if x_10 = true then
        (wirelessref43_charWrong F db_1 i_2).bind fun x_20 =>
        some (x_20)
      else
        some (false)).bind fun z_12 =>
      (if z_12 = true then
        some (true)
      else
        (wirelessref43_Is F x_3.f_Type 10498).bind fun x_16 =>
        if x_16 = true then
          (wirelessref43_configWrong F db_1 i_2).bind fun x_18 =>
          some (x_18)
        else
          some (false)).bind fun z_14 =>
      some z_14

def wirelessref43_Check_j1 (F : Nat) : Option (Int) :=
  some 0

def wirelessref43_Check_l1 (F : Nat) (db_1 : (List T_api_Attribute)) (x_2 : Int) (x_3 : Int) : Option (Out (Int × Int) (Sum (Unit) (Int))) :=
  if (decide (x_3 < (len db_1))) = true then
    (idx db_1 x_3).bind fun x_4 =>
    if (decide (x_4.Handle ≤ x_2)) = true then
      some (.done (.inr 13))
    else
      (idx db_1 x_3).bind fun x_5 =>
      (if (decide (x_5.Perms < 0)) = true then
        some (true)
      else
        (idx db_1 x_3).bind fun x_12 =>
        some (decide (x_12.Perms > 15))).bind fun z_7 =>
      if z_7 = true then
        some (.done (.inr 5))
      else
        (idx db_1 x_3).bind fun x_8 =>
        if (decide ((len x_8.Value) > 512)) = true then
          some (.done (.inr 4))
        else
          (wirelessref43_wrong F db_1 x_3).bind fun x_9 =>
          if x_9 = true then
            some (.done (.inr 1))
          else
            (idx db_1 x_3).bind fun x_10 =>
            some (.next (x_10.Handle, w64 (x_3 + 1)))
  else
    some (.done (.inl ()))

def wirelessref43_Check (F : Nat) (db_1 : (List T_api_Attribute)) : Option (Int) :=
  if (decide ((len db_1) > 1000)) = true then
    some 4
  else
    (iter (fun s => wirelessref43_Check_l1 F db_1 s.1 s.2) F (0, 0)).bind fun o =>
    match o with
    | .inl u => wirelessref43_Check_j1 F
    | .inr u => some u

def wirelesslaw43_fine (F : Nat) (db_1 : (List T_api_Attribute)) : Option (Bool) :=
  (if (decide ((len db_1) ≤ 100)) = true then
    (wirelesslaw43_light F db_1).bind fun x_9 =>
    some (x_9)
  else
    some (false)).bind fun z_3 =>
  (if z_3 = true then
    (wirelessref43_Check F db_1).bind fun x_7 =>
    some ((x_7 == 0))
  else
    some (false)).bind fun z_5 =>
  some z_5

def wirelesslaw43_sample (F : Nat) : Option ((List T_api_Service)) :=
  (wirelessref41_Short F 6145).bind fun x_1 =>
  (wirelessref41_Short F 10757).bind fun x_2 =>
  some [(T_api_Service.mk x_1 true [(T_api_Char.mk x_2 32 0 [] [])])]

def uuid_bytes_j1 (F : Nat) (u_1 : T_api_UUID) : Option ((Int × Int × Int × Int × Int × Int × Int × Int × Int × Int × Int × Int × Int × Int × Int × Int)) :=
  some (wu8 (shrp u_1.Low 0), wu8 (shrp u_1.Low 8), wu8 (shrp u_1.Low 16), wu8 (shrp u_1.Low 24), wu8 (shrp u_1.Low 32), wu8 (shrp u_1.Low 40), wu8 (shrp u_1.Low 48), wu8 (shrp u_1.Low 56), wu8 (shrp u_1.High 0), wu8 (shrp u_1.High 8), wu8 (shrp u_1.High 16), wu8 (shrp u_1.High 24), wu8 (shrp u_1.High 32), wu8 (shrp u_1.High 40), wu8 (shrp u_1.High 48), wu8 (shrp u_1.High 56))

def uuid_bytes_u2_8 (F : Nat) (u_1 : T_api_UUID) : Option ((Int × Int × Int × Int × Int × Int × Int × Int × Int × Int × Int × Int × Int × Int × Int × Int)) :=
  uuid_bytes_j1 F u_1

def uuid_bytes_u2_7 (F : Nat) (u_1 : T_api_UUID) : Option ((Int × Int × Int × Int × Int × Int × Int × Int × Int × Int × Int × Int × Int × Int × Int × Int)) :=
  uuid_bytes_u2_8 F u_1

def uuid_bytes_u2_6 (F : Nat) (u_1 : T_api_UUID) : Option ((Int × Int × Int × Int × Int × Int × Int × Int × Int × Int × Int × Int × Int × Int × Int × Int)) :=
  uuid_bytes_u2_7 F u_1

def uuid_bytes_u2_5 (F : Nat) (u_1 : T_api_UUID) : Option ((Int × Int × Int × Int × Int × Int × Int × Int × Int × Int × Int × Int × Int × Int × Int × Int)) :=
  uuid_bytes_u2_6 F u_1

def uuid_bytes_u2_4 (F : Nat) (u_1 : T_api_UUID) : Option ((Int × Int × Int × Int × Int × Int × Int × Int × Int × Int × Int × Int × Int × Int × Int × Int)) :=
  uuid_bytes_u2_5 F u_1

def uuid_bytes_u2_3 (F : Nat) (u_1 : T_api_UUID) : Option ((Int × Int × Int × Int × Int × Int × Int × Int × Int × Int × Int × Int × Int × Int × Int × Int)) :=
  uuid_bytes_u2_4 F u_1

def uuid_bytes_u2_2 (F : Nat) (u_1 : T_api_UUID) : Option ((Int × Int × Int × Int × Int × Int × Int × Int × Int × Int × Int × Int × Int × Int × Int × Int)) :=
  uuid_bytes_u2_3 F u_1

def uuid_bytes_u2_1 (F : Nat) (u_1 : T_api_UUID) : Option ((Int × Int × Int × Int × Int × Int × Int × Int × Int × Int × Int × Int × Int × Int × Int × Int)) :=
  uuid_bytes_u2_2 F u_1

def uuid_bytes (F : Nat) (u_1 : T_api_UUID) : Option ((Int × Int × Int × Int × Int × Int × Int × Int × Int × Int × Int × Int × Int × Int × Int × Int)) :=
  uuid_bytes_u2_1 F u_1

def uuid_Number_j1 (F : Nat) (x_2 : (Int × Int × Int × Int × Int × Int × Int × Int × Int × Int × Int × Int × Int × Int × Int × Int)) (z_3 : Bool) : Option (Int × Bool) :=
  if z_3 = true then
    some (0, false)
  else
    some (ior .u16 (wu16 x_2.2.2.2.2.2.2.2.2.2.2.2.2.1) (shlp .u16 (wu16 x_2.2.2.2.2.2.2.2.2.2.2.2.2.2.1) 8), true)

def uuid_Number (F : Nat) (u_1 : T_api_UUID) : Option (Int × Bool) :=
  (uuid_bytes F u_1).bind fun x_2 =>
  (uuid_bytes F (T_api_UUID.mk 4096 9223372588214596859)).bind fun x_6 =>
  uuid_Number_j1 F x_2 (!((x_2.1 == x_6.1) && ((x_2.2.1 == x_6.2.1) && ((x_2.2.2.1 == x_6.2.2.1) && ((x_2.2.2.2.1 == x_6.2.2.2.1) && ((x_2.2.2.2.2.1 == x_6.2.2.2.2.1) && ((x_2.2.2.2.2.2.1 == x_6.2.2.2.2.2.1) && ((x_2.2.2.2.2.2.2.1 == x_6.2.2.2.2.2.2.1) && ((x_2.2.2.2.2.2.2.2.1 == x_6.2.2.2.2.2.2.2.1) && ((x_2.2.2.2.2.2.2.2.2.1 == x_6.2.2.2.2.2.2.2.2.1) && ((x_2.2.2.2.2.2.2.2.2.2.1 == x_6.2.2.2.2.2.2.2.2.2.1) && ((x_2.2.2.2.2.2.2.2.2.2.2.1 == x_6.2.2.2.2.2.2.2.2.2.2.1) && ((x_2.2.2.2.2.2.2.2.2.2.2.2.1 == x_6.2.2.2.2.2.2.2.2.2.2.2.1) && ((0 == x_6.2.2.2.2.2.2.2.2.2.2.2.2.1) && ((0 == x_6.2.2.2.2.2.2.2.2.2.2.2.2.2.1) && ((x_2.2.2.2.2.2.2.2.2.2.2.2.2.2.2.1 == x_6.2.2.2.2.2.2.2.2.2.2.2.2.2.2.1) && (x_2.2.2.2.2.2.2.2.2.2.2.2.2.2.2.2 == x_6.2.2.2.2.2.2.2.2.2.2.2.2.2.2.2)))))))))))))))))

def slices_Index_uint16_uint16_j1 (F : Nat) : Option (Int) :=
  some (-1)

def slices_Index_uint16_uint16_l1 (F : Nat) (s_1 : (List Int)) (v_2 : Int) (x_3 : Int) : Option (Out (Int) (Sum (Unit) (Int))) :=
  if (decide (x_3 < (len s_1))) = true then
    (idx s_1 x_3).bind fun x_4 =>
    if (v_2 == x_4) = true then
      some (.done (.inr x_3))
    else
      some (.next (w64 (x_3 + 1)))
  else
    some (.done (.inl ()))

def slices_Index_uint16_uint16 (F : Nat) (s_1 : (List Int)) (v_2 : Int) : Option (Int) :=
  (iter (fun s => slices_Index_uint16_uint16_l1 F s_1 v_2 s) F (0)).bind fun o =>
  match o with
  | .inl u => slices_Index_uint16_uint16_j1 F
  | .inr u => some u

def slices_Contains_uint16_uint16 (F : Nat) (s_1 : (List Int)) (v_2 : Int) : Option (Bool) :=
  (slices_Index_uint16_uint16 F s_1 v_2).bind fun x_3 =>
  some (decide (x_3 ≥ 0))

def database_is (F : Nat) (u_1 : T_api_UUID) (numbers_2 : (List Int)) : Option (Bool) :=
  (uuid_Number F u_1).bind fun x_3 =>
  (if x_3.2 = true then
    (slices_Contains_uint16_uint16 F numbers_2 x_3.1).bind fun x_7 =>
    some (x_7)
  else
    some (false)).bind fun z_5 =>
  some z_5

def database_service (F : Nat) (u_1 : T_api_UUID) : Option (Bool) :=
  (database_is F u_1 [10240, 10241]).bind fun x_2 =>
  some x_2

def database_declaration (F : Nat) (u_1 : T_api_UUID) : Option (Bool) :=
  (database_service F u_1).bind fun x_2 =>
  (if x_2 = true then
    some (true)
  else
    (database_is F u_1 [10242, 10243]).bind fun x_6 =>
    some (x_6)).bind fun z_4 =>
  some z_4

def database_reserved (F : Nat) (u_1 : T_api_UUID) : Option (Bool) :=
  (database_declaration F u_1).bind fun x_2 =>
  (if x_2 = true then
    some (true)
  else
    (database_is F u_1 [10498]).bind fun x_6 =>
    some (x_6)).bind fun z_4 =>
  some z_4

def database_chosen (F : Nat) (u_1 : T_api_UUID) (props_2 : Int) (perms_3 : Int) (value_4 : (List Int)) : Option (Int) :=
  (database_reserved F u_1).bind fun x_5 =>
  if x_5 = true then
    some 1
  else
    if ((((decide (props_2 < 0)) || (decide (props_2 > 255))) || (decide (perms_3 < 0))) || (decide (perms_3 > 15))) = true then
      some 5
    else
      if (decide ((len value_4) > 512)) = true then
        some 4
      else
        some 0

def database_told (F : Nat) (c_1 : T_api_Char) : Option (Bool) :=
  some ((iand .i64 c_1.Props 48) != 0)

def database_count_j1 (F : Nat) (x_2 : Int) : Option (Int × Int) :=
  some (x_2, 0)

def database_count_j2 (F : Nat) (x_4 : Int) (x_5 : Int) : Option (Out (Int × Int) (Sum (Int) (Int × Int))) :=
  some (.next (x_5, w64 (x_4 + 1)))

def database_count_j3 (F : Nat) (x_8 : Int) (x_9 : Int) : Option (Out (Int × Int) (Sum (Int) (Int × Int))) :=
  some (.next (x_9, w64 (x_8 + 1)))

def database_count_l3 (F : Nat) (x_10 : T_api_Char) (x_12 : Int) (x_13 : Int) : Option (Out (Int) (Sum (Int) (Int × Int))) :=
  if (decide (x_13 < (len x_10.More))) = true then
    (idx x_10.More x_13).bind fun x_14 =>
    (database_chosen F x_14.f_Type 0 x_14.Perms x_14.Value).bind fun x_15 =>
    if (x_15 != 0) = true then
      some (.done (.inr (0, x_15)))
    else
      some (.next (w64 (x_13 + 1)))
  else
    some (.done (.inl (x_12)))

def database_count_j4 (F : Nat) (x_8 : Int) (x_10 : T_api_Char) (x_12 : Int) : Option (Out (Int × Int) (Sum (Int) (Int × Int))) :=
  (iter (fun s => database_count_l3 F x_10 x_12 s) F (0)).bind fun o =>
  match o with
  | .inl u => database_count_j3 F x_8 u
  | .inr u => some (.done (.inr u))

def database_count_l2 (F : Nat) (x_6 : T_api_Service) (x_7 : Int) (x_8 : Int) : Option (Out (Int × Int) (Sum (Int) (Int × Int))) :=
  if (decide (x_8 < (len x_6.Chars))) = true then
    (idx x_6.Chars x_8).bind fun x_10 =>
    (database_chosen F x_10.f_Type x_10.Props x_10.Perms x_10.Value).bind fun x_11 =>
    if (x_11 != 0) = true then
      some (.done (.inr (0, x_11)))
    else
      (database_told F x_10).bind fun x_16 =>
      if x_16 = true then
        database_count_j4 F x_8 x_10 (w64 ((w64 (x_7 + (w64 (2 + (len x_10.More))))) + 1))
      else
        database_count_j4 F x_8 x_10 (w64 (x_7 + (w64 (2 + (len x_10.More)))))
  else
    some (.done (.inl (x_7)))

def database_count_l1 (F : Nat) (l_1 : (List T_api_Service)) (x_3 : Int) (x_4 : Int) : Option (Out (Int × Int) (Sum (Int) (Int × Int))) :=
  if (decide (x_4 < (len l_1))) = true then
    (idx l_1 x_4).bind fun x_6 =>
    (iter (fun s => database_count_l2 F x_6 s.1 s.2) F (w64 (x_3 + 1), 0)).bind fun o =>
    match o with
    | .inl u => database_count_j2 F x_4 u
    | .inr u => some (.done (.inr u))
  else
    some (.done (.inl (x_3)))

def database_count (F : Nat) (l_1 : (List T_api_Service)) : Option (Int × Int) :=
  (iter (fun s => database_count_l1 F l_1 s.1 s.2) F (0, 0)).bind fun o =>
  match o with
  | .inl u => database_count_j1 F u
  | .inr u => some u

def uuid_Short (F : Nat) (n_1 : Int) : Option (T_api_UUID) :=
  some (T_api_UUID.mk (ior .u64 (shlp .u64 (wu64 n_1) 32) 4096) 9223372588214596859)

def octets_Join_j1 (F : Nat) (l_2 : (List Int)) : Option ((List Int)) :=
  some l_2

def octets_Join_l1 (F : Nat) (parts_1 : (List (List Int))) (l_3 : (List Int)) (x_4 : Int) : Option (Out ((List Int) × Int) ((List Int))) :=
  if (decide (x_4 < (len parts_1))) = true then
    (idx parts_1 x_4).bind fun x_5 =>
    (app 1 l_3 x_5).bind fun l_6 =>
    some (.next (l_6, w64 (x_4 + 1)))
  else
    some (.done (l_3))

def octets_Join (F : Nat) (parts_1 : (List (List Int))) : Option ((List Int)) :=
  (iter (fun s => octets_Join_l1 F parts_1 s.1 s.2) F ([], 0)).bind fun o =>
  octets_Join_j1 F o

def uuid_Encode (F : Nat) (u_1 : T_api_UUID) : Option ((List Int)) :=
  (uuid_Number F u_1).bind fun x_2 =>
  if x_2.2 = true then
    some [wu8 x_2.1, wu8 (shrp x_2.1 8)]
  else
    (uuid_bytes F u_1).bind fun x_3 =>
    (octets_Join F [[x_3.1, x_3.2.1, x_3.2.2.1, x_3.2.2.2.1, x_3.2.2.2.2.1, x_3.2.2.2.2.2.1, x_3.2.2.2.2.2.2.1, x_3.2.2.2.2.2.2.2.1, x_3.2.2.2.2.2.2.2.2.1, x_3.2.2.2.2.2.2.2.2.2.1, x_3.2.2.2.2.2.2.2.2.2.2.1, x_3.2.2.2.2.2.2.2.2.2.2.2.1, x_3.2.2.2.2.2.2.2.2.2.2.2.2.1, x_3.2.2.2.2.2.2.2.2.2.2.2.2.2.1, x_3.2.2.2.2.2.2.2.2.2.2.2.2.2.2.1, x_3.2.2.2.2.2.2.2.2.2.2.2.2.2.2.2]]).bind fun x_4 =>
    some x_4

def database_Build_1_j1 (F : Nat) (p_5 : Int) (l_6 : (List T_api_Attribute)) : Option ((List T_api_Attribute) × Int) :=
  some (l_6, wu16 (p_5 + 1))

def database_Build_1 (F : Nat) (u_1 : T_api_UUID) (perms_2 : Int) (parts_3 : (List (List Int))) (p_4 : (List T_api_Attribute)) (p_5 : Int) : Option ((List T_api_Attribute) × Int) :=
  (octets_Join F parts_3).bind fun x_409 =>
  (app 56 p_4 [(T_api_Attribute.mk p_5 u_1 perms_2 x_409)]).bind fun l_649 =>
  database_Build_1_j1 F p_5 l_649

def database_Build_j1 (F : Nat) (l_4 : (List T_api_Attribute)) : Option ((List T_api_Attribute) × Int) :=
  some (l_4, 0)

def database_Build_j2 (F : Nat) (x_7 : Int) (l_8 : (List T_api_Attribute)) (x_9 : Int) : Option (Out ((List T_api_Attribute) × Int × Int) ((List T_api_Attribute))) :=
  some (.next (l_8, x_9, w64 (x_7 + 1)))

def database_Build_j5 (F : Nat) (x_16 : Int) (l_17 : (List T_api_Attribute)) (x_18 : Int) : Option (Out ((List T_api_Attribute) × Int × Int) ((List T_api_Attribute) × Int)) :=
  some (.next (l_17, x_18, w64 (x_16 + 1)))

def database_Build_l3 (F : Nat) (x_19 : T_api_Char) (l_25 : (List T_api_Attribute)) (x_26 : Int) (x_27 : Int) : Option (Out ((List T_api_Attribute) × Int × Int) ((List T_api_Attribute) × Int)) :=
  if (decide (x_27 < (len x_19.More))) = true then
    (idx x_19.More x_27).bind fun x_28 =>
    (database_Build_1 F x_28.f_Type x_28.Perms [x_28.Value] l_25 x_26).bind fun x_29 =>
    some (.next (x_29.1, x_29.2, w64 (x_27 + 1)))
  else
    some (.done (l_25, x_26))

def database_Build_j7 (F : Nat) (x_16 : Int) (x_19 : T_api_Char) (l_23 : (List T_api_Attribute)) (x_24 : Int) : Option (Out ((List T_api_Attribute) × Int × Int) ((List T_api_Attribute) × Int)) :=
  (iter (fun s => database_Build_l3 F x_19 s.1 s.2.1 s.2.2) F (l_23, x_24, 0)).bind fun o =>
  database_Build_j5 F x_16 o.1 o.2

def database_Build_j6 (F : Nat) (x_16 : Int) (x_19 : T_api_Char) (l_20 : (List T_api_Attribute)) (x_21 : Int) : Option (Out ((List T_api_Attribute) × Int × Int) ((List T_api_Attribute) × Int)) :=
  (database_Build_1 F x_19.f_Type x_19.Perms [x_19.Value] l_20 x_21).bind fun x_22 =>
  (database_told F x_19).bind fun x_30 =>
  if x_30 = true then
    (uuid_Short F 10498).bind fun x_31 =>
    (database_Build_1 F x_31 3 [[0, 0]] x_22.1 x_22.2).bind fun x_32 =>
    database_Build_j7 F x_16 x_19 x_32.1 x_32.2
  else
    database_Build_j7 F x_16 x_19 x_22.1 x_22.2

def database_Build_l2 (F : Nat) (x_10 : T_api_Service) (l_14 : (List T_api_Attribute)) (x_15 : Int) (x_16 : Int) : Option (Out ((List T_api_Attribute) × Int × Int) ((List T_api_Attribute) × Int)) :=
  if (decide (x_16 < (len x_10.Chars))) = true then
    (idx x_10.Chars x_16).bind fun x_19 =>
    (uuid_Short F 10243).bind fun x_115 =>
    (uuid_Encode F x_19.f_Type).bind fun x_1075 =>
    (database_Build_1 F x_115 1 [[wu8 x_19.Props, wu8 (wu16 (x_15 + 1)), wu8 (shrp (wu16 (x_15 + 1)) 8)], x_1075] l_14 x_15).bind fun x_1235 =>
    database_Build_j6 F x_16 x_19 x_1235.1 x_1235.2
  else
    some (.done (l_14, x_15))

def database_Build_j4 (F : Nat) (x_7 : Int) (x_10 : T_api_Service) (l_12 : (List T_api_Attribute)) (x_13 : Int) : Option (Out ((List T_api_Attribute) × Int × Int) ((List T_api_Attribute))) :=
  (iter (fun s => database_Build_l2 F x_10 s.1 s.2.1 s.2.2) F (l_12, x_13, 0)).bind fun o =>
  database_Build_j2 F x_7 o.1 o.2

def database_Build_j3 (F : Nat) (l_5 : (List T_api_Attribute)) (x_6 : Int) (x_7 : Int) (x_10 : T_api_Service) (x_11 : Int) : Option (Out ((List T_api_Attribute) × Int × Int) ((List T_api_Attribute))) :=
  (uuid_Short F x_11).bind fun x_1397 =>
  (uuid_Encode F x_10.f_Type).bind fun x_1398 =>
  (database_Build_1 F x_1397 1 [x_1398] l_5 x_6).bind fun x_1399 =>
  database_Build_j4 F x_7 x_10 x_1399.1 x_1399.2

def database_Build_l1 (F : Nat) (l_1 : (List T_api_Service)) (l_5 : (List T_api_Attribute)) (x_6 : Int) (x_7 : Int) : Option (Out ((List T_api_Attribute) × Int × Int) ((List T_api_Attribute))) :=
  if (decide (x_7 < (len l_1))) = true then
    (idx l_1 x_7).bind fun x_10 =>
    if x_10.Primary = true then
      database_Build_j3 F l_5 x_6 x_7 x_10 10240
    else
      database_Build_j3 F l_5 x_6 x_7 x_10 10241
  else
    some (.done (l_5))

def database_Build (F : Nat) (l_1 : (List T_api_Service)) (first_2 : Int) : Option ((List T_api_Attribute) × Int) :=
  if (first_2 == 0) = true then
    some ([], 5)
  else
    (database_count F l_1).bind fun x_3 =>
    if (x_3.2 != 0) = true then
      some ([], x_3.2)
    else
      if (decide (x_3.1 > 1000)) = true then
        some ([], 4)
      else
        if (decide ((w64 ((w64 ((w64 first_2) + x_3.1)) - 1)) > 65535)) = true then
          some ([], 8)
        else
          (iter (fun s => database_Build_l1 F l_1 s.1 s.2.1 s.2.2) F ([], first_2, 0)).bind fun o =>
          database_Build_j1 F o

def database_copied (F : Nat) (a_1 : T_api_Attribute) : Option (T_api_Attribute) :=
  (octets_Join F [a_1.Value]).bind fun x_2 =>
  some ({ a_1 with Value := x_2 })

def database_Find_1 (F : Nat) (a_1 : T_api_Attribute) (p_2 : Int) : Option (Bool × Int) :=
  some ((a_1.Handle == p_2), p_2)

def slices_IndexFunc_api_Attribute_api_Attribute_at53_j1 (F : Nat) (x_3 : Int) : Option (Int × Int) :=
  some ((-1), x_3)

def slices_IndexFunc_api_Attribute_api_Attribute_at53_l1 (F : Nat) (s_1 : (List T_api_Attribute)) (x_4 : Int) (x_5 : Int) : Option (Out (Int × Int) (Sum (Int) (Int × Int))) :=
  if (decide (x_5 < (len s_1))) = true then
    (idx s_1 x_5).bind fun x_6 =>
    (database_Find_1 F x_6 x_4).bind fun x_7 =>
    if x_7.1 = true then
      some (.done (.inr (x_5, x_7.2)))
    else
      some (.next (x_7.2, w64 (x_5 + 1)))
  else
    some (.done (.inl (x_4)))

def slices_IndexFunc_api_Attribute_api_Attribute_at53 (F : Nat) (s_1 : (List T_api_Attribute)) (c_2 : Int) : Option (Int × Int) :=
  (iter (fun s => slices_IndexFunc_api_Attribute_api_Attribute_at53_l1 F s_1 s.1 s.2) F (c_2, 0)).bind fun o =>
  match o with
  | .inl u => slices_IndexFunc_api_Attribute_api_Attribute_at53_j1 F u
  | .inr u => some u

def database_Find (F : Nat) (db_1 : (List T_api_Attribute)) (handle_2 : Int) : Option (Int) :=
  (slices_IndexFunc_api_Attribute_api_Attribute_at53 F db_1 handle_2).bind fun x_3 =>
  some x_3.1

def database_Set_j1 (F : Nat) (handle_2 : Int) (value_3 : (List Int)) (l_4 : (List T_api_Attribute)) : Option ((List T_api_Attribute) × Int) :=
  (database_Find F l_4 handle_2).bind fun x_5 =>
  if (decide (x_5 < 0)) = true then
    some (l_4, 6)
  else
    (idx l_4 x_5).bind fun x_6 =>
    (database_reserved F x_6.f_Type).bind fun x_7 =>
    if x_7 = true then
      some (l_4, 14)
    else
      if (decide ((len value_3) > 512)) = true then
        some (l_4, 4)
      else
        (octets_Join F [value_3]).bind fun x_8 =>
        (idx l_4 x_5).bind fun x_9 =>
        (upd l_4 x_5 ({ x_9 with Value := x_8 })).bind fun l_10 =>
        some (l_10, 0)

def database_Set_l1 (F : Nat) (db_1 : (List T_api_Attribute)) (l_11 : (List T_api_Attribute)) (x_12 : Int) : Option (Out ((List T_api_Attribute) × Int) ((List T_api_Attribute))) :=
  if (decide (x_12 < (len db_1))) = true then
    (idx db_1 x_12).bind fun x_13 =>
    (database_copied F x_13).bind fun x_14 =>
    (app 56 l_11 [x_14]).bind fun l_15 =>
    some (.next (l_15, w64 (x_12 + 1)))
  else
    some (.done (l_11))

def database_Set (F : Nat) (db_1 : (List T_api_Attribute)) (handle_2 : Int) (value_3 : (List Int)) : Option ((List T_api_Attribute) × Int) :=
  (iter (fun s => database_Set_l1 F db_1 s.1 s.2) F ([], 0)).bind fun o =>
  database_Set_j1 F handle_2 value_3 o

def database_Group_j1 (F : Nat) (db_1 : (List T_api_Attribute)) (x_6 : Int) : Option (Int × Bool) :=
  (idx db_1 x_6).bind fun x_7 =>
  some (x_7.Handle, true)

def database_Group_l1 (F : Nat) (db_1 : (List T_api_Attribute)) (x_8 : Int) : Option (Out (Int) (Int)) :=
  (if (decide ((w64 (x_8 + 1)) < (len db_1))) = true then
    (idx db_1 (w64 (x_8 + 1))).bind fun x_12 =>
    (database_service F x_12.f_Type).bind fun x_13 =>
    some ((!x_13))
  else
    some (false)).bind fun z_10 =>
  if z_10 = true then
    some (.next (w64 (x_8 + 1)))
  else
    some (.done (x_8))

def database_Group (F : Nat) (db_1 : (List T_api_Attribute)) (handle_2 : Int) : Option (Int × Bool) :=
  (database_Find F db_1 handle_2).bind fun x_3 =>
  (if (decide (x_3 < 0)) = true then
    some (true)
  else
    (idx db_1 x_3).bind fun x_15 =>
    (database_service F x_15.f_Type).bind fun x_16 =>
    some ((!x_16))).bind fun z_5 =>
  if z_5 = true then
    some (0, false)
  else
    (iter (fun s => database_Group_l1 F db_1 s) F (x_3)).bind fun o =>
    database_Group_j1 F db_1 o

def uuid_Decode_j1 (F : Nat) (c_4 : T_api_UUID) : Option (T_api_UUID × Int) :=
  some (c_4, 0)

def uuid_Decode_j2 (F : Nat) (c_12 : T_api_UUID) : Option (T_api_UUID × Int) :=
  (uuid_Number F c_12).bind fun x_13 =>
  if x_13.2 = true then
    some ((T_api_UUID.mk 0 0), 2)
  else
    some (c_12, 0)

def uuid_Decode_j3 (F : Nat) (b_1 : (List Int)) (c_16 : T_api_UUID) (x_17 : Int) (x_18 : Int) : Option (Out (T_api_UUID × Int) (T_api_UUID)) :=
  (idx b_1 (w64 (8 + x_17))).bind fun x_19 =>
  (ishl .u64 (wu64 x_19) (w64 (8 * x_17))).bind fun x_22 =>
  some (.next ((T_api_UUID.mk (ior .u64 c_16.High x_22) x_18), w64 (x_17 + 1)))

def uuid_Decode_l1 (F : Nat) (b_1 : (List Int)) (c_16 : T_api_UUID) (x_17 : Int) : Option (Out (T_api_UUID × Int) (T_api_UUID)) :=
  if (decide (x_17 < 8)) = true then
    (idx b_1 x_17).bind fun x_23 =>
    (ishl .u64 (wu64 x_23) (w64 (8 * x_17))).bind fun x_26 =>
    uuid_Decode_j3 F b_1 c_16 x_17 (ior .u64 c_16.Low x_26)
  else
    some (.done (c_16))

def uuid_Decode (F : Nat) (b_1 : (List Int)) : Option (T_api_UUID × Int) :=
  if ((len b_1) == 2) = true then
    (idx b_1 0).bind fun x_5 =>
    (idx b_1 1).bind fun x_6 =>
    (uuid_Short F (ior .u16 (wu16 x_5) (shlp .u16 (wu16 x_6) 8))).bind fun x_9 =>
    uuid_Decode_j1 F x_9
  else
    if (decide ((len b_1) < 16)) = true then
      some ((T_api_UUID.mk 0 0), 3)
    else
      if (decide ((len b_1) > 16)) = true then
        some ((T_api_UUID.mk 0 0), 2)
      else
        (iter (fun s => uuid_Decode_l1 F b_1 s.1 s.2) F ((T_api_UUID.mk 0 0), 0)).bind fun o =>
        uuid_Decode_j2 F o

def database_described_j1 (F : Nat) (x_3 : T_api_UUID × Int) (x_4 : Int) (x_5 : Int) : Option (Int × Int × T_api_UUID × Bool) :=
  some (x_4, x_5, x_3.1, true)

def database_described (F : Nat) (b_1 : (List Int)) : Option (Int × Int × T_api_UUID × Bool) :=
  if (decide ((len b_1) < 3)) = true then
    some (0, 0, (T_api_UUID.mk 0 0), false)
  else
    (sub b_1 3 (len b_1)).bind fun l_2 =>
    (uuid_Decode F l_2).bind fun x_3 =>
    if (x_3.2 != 0) = true then
      some (0, 0, (T_api_UUID.mk 0 0), false)
    else
      (idx b_1 0).bind fun x_6 =>
      (idx b_1 1).bind fun x_7 =>
      (idx b_1 2).bind fun x_8 =>
      database_described_j1 F x_3 (w64 x_6) (ior .u16 (wu16 x_7) (shlp .u16 (wu16 x_8) 8))

def database_Found_j1 (F : Nat) (l_2 : (List T_api_Found)) : Option ((List T_api_Found)) :=
  some l_2

def database_Found_j2 (F : Nat) (x_4 : Int) (l_5 : (List T_api_Found)) : Option (Out ((List T_api_Found) × Int) ((List T_api_Found))) :=
  some (.next (l_5, w64 (x_4 + 1)))

def database_Found_j3 (F : Nat) (l_3 : (List T_api_Found)) (x_4 : Int) (x_6 : T_api_Attribute) (c_12 : T_api_Found) : Option (Out ((List T_api_Found) × Int) ((List T_api_Found))) :=
  (app 32 l_3 [{ c_12 with Handle := x_6.Handle }]).bind fun l_13 =>
  database_Found_j2 F x_4 l_13

def database_Found_l1 (F : Nat) (db_1 : (List T_api_Attribute)) (l_3 : (List T_api_Found)) (x_4 : Int) : Option (Out ((List T_api_Found) × Int) ((List T_api_Found))) :=
  if (decide (x_4 < (len db_1))) = true then
    (idx db_1 x_4).bind fun x_6 =>
    (if (decide (x_4 > 0)) = true then
      (idx db_1 (w64 (x_4 - 1))).bind fun x_22 =>
      (database_is F x_22.f_Type [10243]).bind fun x_23 =>
      some (x_23)
    else
      some (false)).bind fun z_15 =>
    if z_15 = true then
      database_Found_j2 F x_4 l_3
    else
      (database_service F x_6.f_Type).bind fun x_16 =>
      if x_16 = true then
        (database_Group F db_1 x_6.Handle).bind fun x_17 =>
        (uuid_Decode F x_6.Value).bind fun x_18 =>
        database_Found_j3 F l_3 x_4 x_6 (T_api_Found.mk x_6.Handle x_17.1 0 0 x_18.1)
      else
        (database_is F x_6.f_Type [10243]).bind fun x_19 =>
        if x_19 = true then
          (database_described F x_6.Value).bind fun x_20 =>
          database_Found_j3 F l_3 x_4 x_6 (T_api_Found.mk x_6.Handle 0 x_20.2.1 x_20.1 x_20.2.2.1)
        else
          database_Found_j3 F l_3 x_4 x_6 (T_api_Found.mk x_6.Handle 0 0 0 x_6.f_Type)
  else
    some (.done (l_3))

def database_Found (F : Nat) (db_1 : (List T_api_Attribute)) : Option ((List T_api_Found)) :=
  (iter (fun s => database_Found_l1 F db_1 s.1 s.2) F ([], 0)).bind fun o =>
  database_Found_j1 F o

def wirelessref23_Same (F : Nat) (a_1 : (List Int)) (b_2 : (List Int)) : Option (Bool) :=
  some ((str a_1) == (str b_2))

def database_wrong_j2 (F : Nat) (z_10 : Bool) : Option (Bool) :=
  some z_10

def database_wrong_j1 (F : Nat) (db_1 : (List T_api_Attribute)) (i_2 : Int) (at_3 : T_database_place) (x_4 : T_api_Attribute) (z_5 : Bool) : Option (Bool) :=
  if z_5 = true then
    some true
  else
    (database_service F x_4.f_Type).bind fun x_6 =>
    if x_6 = true then
      (uuid_Decode F x_4.Value).bind fun x_7 =>
      some (x_7.2 != 0)
    else
      (database_is F x_4.f_Type [10243]).bind fun x_8 =>
      if x_8 = true then
        (database_described F x_4.Value).bind fun x_9 =>
        if (!x_9.2.2.2) = true then
          if (true || (decide ((w64 (i_2 + 1)) ≥ (len db_1)))) = true then
            database_wrong_j2 F true
          else
            (idx db_1 (w64 (i_2 + 1))).bind fun x_15 =>
            if (x_15.Handle != x_9.2.1) = true then
              database_wrong_j2 F true
            else
              (idx db_1 (w64 (i_2 + 1))).bind fun x_17 =>
              database_wrong_j2 F (!((x_17.f_Type.High == x_9.2.2.1.High) && (x_17.f_Type.Low == x_9.2.2.1.Low)))
        else
          (database_reserved F x_9.2.2.1).bind fun x_18 =>
          if (x_18 || (decide ((w64 (i_2 + 1)) ≥ (len db_1)))) = true then
            database_wrong_j2 F true
          else
            (idx db_1 (w64 (i_2 + 1))).bind fun x_20 =>
            if (x_20.Handle != x_9.2.1) = true then
              database_wrong_j2 F true
            else
              (idx db_1 (w64 (i_2 + 1))).bind fun x_22 =>
              database_wrong_j2 F (!((x_22.f_Type.High == x_9.2.2.1.High) && (x_22.f_Type.Low == x_9.2.2.1.Low)))
      else
        (database_is F x_4.f_Type [10498]).bind fun x_23 =>
        if x_23 = true then
          some ((((len x_4.Value) != 2) || (!at_3.char)) || at_3.config)
        else
          some false

def database_wrong (F : Nat) (db_1 : (List T_api_Attribute)) (i_2 : Int) (at_3 : T_database_place) : Option (Bool) :=
  (idx db_1 i_2).bind fun x_4 =>
  (if (i_2 == 0) = true then
    (database_service F x_4.f_Type).bind fun x_28 =>
    some ((!x_28))
  else
    some (false)).bind fun z_25 =>
  if z_25 = true then
    database_wrong_j1 F db_1 i_2 at_3 x_4 z_25
  else
    (database_declaration F x_4.f_Type).bind fun x_26 =>
    database_wrong_j1 F db_1 i_2 at_3 x_4 (x_26 && ((iand .i64 x_4.Perms 2) != 0))

def database_Check_j1 (F : Nat) : Option (Int) :=
  some 0

def database_Check_j2 (F : Nat) (x_6 : Int) (x_7 : Int) (c_10 : T_database_place) : Option (Out (Int × T_database_place × Int) (Sum (Unit) (Int))) :=
  some (.next (x_7, c_10, w64 (x_6 + 1)))

def database_Check_l1 (F : Nat) (db_1 : (List T_api_Attribute)) (x_2 : Int) (c_5 : T_database_place) (x_6 : Int) : Option (Out (Int × T_database_place × Int) (Sum (Unit) (Int))) :=
  if (decide (x_6 < (len db_1))) = true then
    (idx db_1 x_6).bind fun x_11 =>
    if (decide (x_11.Handle ≤ x_2)) = true then
      some (.done (.inr 13))
    else
      if ((decide (x_11.Perms < 0)) || (decide (x_11.Perms > 15))) = true then
        some (.done (.inr 5))
      else
        if (decide ((len x_11.Value) > 512)) = true then
          some (.done (.inr 4))
        else
          (database_wrong F db_1 x_6 c_5).bind fun x_12 =>
          if x_12 = true then
            some (.done (.inr 1))
          else
            (database_service F x_11.f_Type).bind fun x_13 =>
            if x_13 = true then
              database_Check_j2 F x_6 x_11.Handle (T_database_place.mk false false)
            else
              (database_is F x_11.f_Type [10243]).bind fun x_14 =>
              if x_14 = true then
                database_Check_j2 F x_6 x_11.Handle (T_database_place.mk true false)
              else
                (database_is F x_11.f_Type [10498]).bind fun x_15 =>
                if x_15 = true then
                  database_Check_j2 F x_6 x_11.Handle ({ c_5 with config := true })
                else
                  database_Check_j2 F x_6 x_11.Handle c_5
  else
    some (.done (.inl ()))

def database_Check (F : Nat) (db_1 : (List T_api_Attribute)) : Option (Int) :=
  if (decide ((len db_1) > 1000)) = true then
    some 4
  else
    (iter (fun s => database_Check_l1 F db_1 s.1 s.2.1 s.2.2) F (0, (T_database_place.mk false false), 0)).bind fun o =>
    match o with
    | .inl u => database_Check_j1 F
    | .inr u => some u

def wirelesslaw43_exampleHolds_j1 (F : Nat) (z_7 : Bool) : Option (Bool) :=
  some z_7

def wirelesslaw43_exampleHolds (F : Nat) : Option (Bool) :=
  (wirelesslaw43_sample F).bind fun x_1 =>
  (database_Build F x_1 1).bind fun x_2 =>
  (database_Set F x_2.1 4 []).bind fun x_3 =>
  (database_Set F x_2.1 5 []).bind fun x_4 =>
  (database_Found F x_2.1).bind fun x_5 =>
  if (((((x_2.2 != 0) || ((len x_2.1) != 4)) || ((len x_5) != 3)) || (x_3.2 != 14)) || (x_4.2 != 6)) = true then
    some false
  else
    (database_Group F x_2.1 1).bind fun x_6 =>
    if ((x_6.1 == 4) && x_6.2) = true then
      (idx x_2.1 0).bind fun x_571 =>
      (wirelessref23_Same F x_571.Value [1, 24]).bind fun x_891 =>
      if x_891 = true then
        (idx x_2.1 1).bind fun x_6012 =>
        (wirelessref23_Same F x_6012.Value [32, 3, 0, 5, 42]).bind fun x_6332 =>
        if x_6332 = true then
          (idx x_2.1 3).bind fun x_9613 =>
          if ((len x_9613.Value) == 2) = true then
            (idx x_5 0).bind fun x_12095 =>
            (wirelessref41_Short F 6145).bind fun x_12255 =>
            if ((x_12095.Handle == 1) && ((x_12095.Last == 4) && ((x_12095.Value == 0) && ((x_12095.Props == 0) && ((x_12095.f_Type.High == x_12255.High) && (x_12095.f_Type.Low == x_12255.Low)))))) = true then
              (idx x_5 1).bind fun x_17536 =>
              (wirelessref41_Short F 10757).bind fun x_17696 =>
              if ((x_17536.Handle == 2) && ((x_17536.Last == 0) && ((x_17536.Value == 3) && ((x_17536.Props == 32) && ((x_17536.f_Type.High == x_17696.High) && (x_17536.f_Type.Low == x_17696.Low)))))) = true then
                (idx x_5 2).bind fun x_22977 =>
                (wirelessref41_Short F 10498).bind fun x_23137 =>
                if ((x_22977.Handle == 4) && ((x_22977.Last == 0) && ((x_22977.Value == 0) && ((x_22977.Props == 0) && ((x_22977.f_Type.High == x_23137.High) && (x_22977.f_Type.Low == x_23137.Low)))))) = true then
                  (database_Check F x_2.1).bind fun x_24018 =>
                  wirelesslaw43_exampleHolds_j1 F (x_24018 == 0)
                else
                  wirelesslaw43_exampleHolds_j1 F false
              else
                wirelesslaw43_exampleHolds_j1 F false
            else
              wirelesslaw43_exampleHolds_j1 F false
          else
            wirelesslaw43_exampleHolds_j1 F false
        else
          wirelesslaw43_exampleHolds_j1 F false
      else
        wirelesslaw43_exampleHolds_j1 F false
    else
      wirelesslaw43_exampleHolds_j1 F false

def wirelessref43_Find_j1 (F : Nat) : Option (Int) :=
  some (-1)

def wirelessref43_Find_l1 (F : Nat) (db_1 : (List T_api_Attribute)) (handle_2 : Int) (x_3 : Int) : Option (Out (Int) (Sum (Unit) (Int))) :=
  if (decide (x_3 < (len db_1))) = true then
    (idx db_1 x_3).bind fun x_4 =>
    if (x_4.Handle == handle_2) = true then
      some (.done (.inr x_3))
    else
      some (.next (w64 (x_3 + 1)))
  else
    some (.done (.inl ()))

def wirelessref43_Find (F : Nat) (db_1 : (List T_api_Attribute)) (handle_2 : Int) : Option (Int) :=
  (iter (fun s => wirelessref43_Find_l1 F db_1 handle_2 s) F (0)).bind fun o =>
  match o with
  | .inl u => wirelessref43_Find_j1 F
  | .inr u => some u

def wirelessref43_Set (F : Nat) (db_1 : (List T_api_Attribute)) (handle_2 : Int) (value_3 : (List Int)) : Option ((List T_api_Attribute) × Int) :=
  (wirelessref43_Find F db_1 handle_2).bind fun x_4 =>
  if (decide (x_4 < 0)) = true then
    some (db_1, 6)
  else
    (idx db_1 x_4).bind fun x_5 =>
    (wirelessref43_kept F x_5.f_Type).bind fun x_6 =>
    if x_6 = true then
      some (db_1, 14)
    else
      if (decide ((len value_3) > 512)) = true then
        some (db_1, 4)
      else
        (app 56 ([] : (List T_api_Attribute)) db_1).bind fun l_7 =>
        (app 1 ([] : (List Int)) value_3).bind fun l_8 =>
        (idx l_7 x_4).bind fun x_9 =>
        (upd l_7 x_4 ({ x_9 with Value := l_8 })).bind fun l_10 =>
        some (l_10, 0)

def wirelessref43_SameDB_j1 (F : Nat) : Option (Bool) :=
  some true

def wirelessref43_SameDB_j2 (F : Nat) (x_3 : Int) (z_4 : Bool) : Option (Out (Int) (Sum (Unit) (Bool))) :=
  if z_4 = true then
    some (.done (.inr false))
  else
    some (.next (w64 (x_3 + 1)))

def wirelessref43_SameDB_l1 (F : Nat) (a_1 : (List T_api_Attribute)) (b_2 : (List T_api_Attribute)) (x_3 : Int) : Option (Out (Int) (Sum (Unit) (Bool))) :=
  if (decide (x_3 < (len a_1))) = true then
    (idx a_1 x_3).bind fun x_5 =>
    (idx b_2 x_3).bind fun x_6 =>
    if (x_5.Handle != x_6.Handle) = true then
      wirelessref43_SameDB_j2 F x_3 true
    else
      (idx a_1 x_3).bind fun x_1130 =>
      (idx b_2 x_3).bind fun x_1530 =>
      if (!((x_1130.f_Type.High == x_1530.f_Type.High) && (x_1130.f_Type.Low == x_1530.f_Type.Low))) = true then
        wirelessref43_SameDB_j2 F x_3 true
      else
        (idx a_1 x_3).bind fun x_6331 =>
        (idx b_2 x_3).bind fun x_6731 =>
        if (x_6331.Perms != x_6731.Perms) = true then
          wirelessref43_SameDB_j2 F x_3 true
        else
          (idx a_1 x_3).bind fun x_11532 =>
          (idx b_2 x_3).bind fun x_11932 =>
          (wirelessref23_Same F x_11532.Value x_11932.Value).bind fun x_12172 =>
          wirelessref43_SameDB_j2 F x_3 (!x_12172)
  else
    some (.done (.inl ()))

def wirelessref43_SameDB (F : Nat) (a_1 : (List T_api_Attribute)) (b_2 : (List T_api_Attribute)) : Option (Bool) :=
  if ((len a_1) != (len b_2)) = true then
    some false
  else
    (iter (fun s => wirelessref43_SameDB_l1 F a_1 b_2 s) F (0)).bind fun o =>
    match o with
    | .inl u => wirelessref43_SameDB_j1 F
    | .inr u => some u

def wirelessref43_SameFound_j1 (F : Nat) : Option (Bool) :=
  some true

def wirelessref43_SameFound_j2 (F : Nat) (x_3 : Int) (z_4 : Bool) : Option (Out (Int) (Sum (Unit) (Bool))) :=
  if z_4 = true then
    some (.done (.inr false))
  else
    some (.next (w64 (x_3 + 1)))

def wirelessref43_SameFound_l1 (F : Nat) (a_1 : (List T_api_Found)) (b_2 : (List T_api_Found)) (x_3 : Int) : Option (Out (Int) (Sum (Unit) (Bool))) :=
  if (decide (x_3 < (len a_1))) = true then
    (idx a_1 x_3).bind fun x_5 =>
    (idx b_2 x_3).bind fun x_6 =>
    wirelessref43_SameFound_j2 F x_3 (!((x_5.Handle == x_6.Handle) && ((x_5.Last == x_6.Last) && ((x_5.Value == x_6.Value) && ((x_5.Props == x_6.Props) && ((x_5.f_Type.High == x_6.f_Type.High) && (x_5.f_Type.Low == x_6.f_Type.Low)))))))
  else
    some (.done (.inl ()))

def wirelessref43_SameFound (F : Nat) (a_1 : (List T_api_Found)) (b_2 : (List T_api_Found)) : Option (Bool) :=
  if ((len a_1) != (len b_2)) = true then
    some false
  else
    (iter (fun s => wirelessref43_SameFound_l1 F a_1 b_2 s) F (0)).bind fun o =>
    match o with
    | .inl u => wirelessref43_SameFound_j1 F
    | .inr u => some u

def octets_sized (F : Nat) (n_1 : Int) : Option (Bool) :=
  some ((decide (n_1 ≥ 1)) && (decide (n_1 ≤ 8)))

def octets_Put_j1 (F : Nat) (l_2 : (List Int)) : Option ((List Int) × Int) :=
  some (l_2, 0)

def octets_Put_j2 (F : Nat) (x_4 : Int) (l_5 : (List Int)) : Option (Out ((List Int) × Int) (Sum ((List Int)) ((List Int) × Int))) :=
  some (.next (l_5, w64 (x_4 + 1)))

def octets_Put_l2 (F : Nat) (x_6 : T_api_Field) (l_10 : (List Int)) (x_11 : Int) : Option (Out ((List Int) × Int) ((List Int))) :=
  if (decide (x_11 < x_6.Size)) = true then
    (ishr .u64 x_6.Value (w64 (8 * x_11))).bind fun x_12 =>
    (app 1 l_10 [wu8 x_12]).bind fun l_13 =>
    some (.next (l_13, w64 (x_11 + 1)))
  else
    some (.done (l_10))

def octets_Put_l1 (F : Nat) (fields_1 : (List T_api_Field)) (l_3 : (List Int)) (x_4 : Int) : Option (Out ((List Int) × Int) (Sum ((List Int)) ((List Int) × Int))) :=
  if (decide (x_4 < (len fields_1))) = true then
    (idx fields_1 x_4).bind fun x_6 =>
    (octets_sized F x_6.Size).bind fun x_7 =>
    (if (!x_7) = true then
      some (true)
    else
      if (decide (x_6.Size < 8)) = true then
        (ishr .u64 x_6.Value (w64 (8 * x_6.Size))).bind fun x_16 =>
        some ((x_16 != 0))
      else
        some (false)).bind fun z_9 =>
    if z_9 = true then
      some (.done (.inr ([], 5)))
    else
      (iter (fun s => octets_Put_l2 F x_6 s.1 s.2) F (l_3, 0)).bind fun o =>
      octets_Put_j2 F x_4 o
  else
    some (.done (.inl (l_3)))

def octets_Put (F : Nat) (fields_1 : (List T_api_Field)) : Option ((List Int) × Int) :=
  (iter (fun s => octets_Put_l1 F fields_1 s.1 s.2) F ([], 0)).bind fun o =>
  match o with
  | .inl u => octets_Put_j1 F u
  | .inr u => some u

def database_number (F : Nat) (size_1 : Int) (n_2 : Int) : Option ((List Int)) :=
  (octets_Put F [(T_api_Field.mk size_1 n_2)]).bind fun x_3 =>
  some x_3.1

def serial_Low (F : Nat) (n_1 : Int) (bits_2 : Int) : Option (Int) :=
  if (decide (bits_2 ≤ 0)) = true then
    some 0
  else
    if (decide (bits_2 ≥ 64)) = true then
      some n_1
    else
      (ishl .u64 1 bits_2).bind fun x_3 =>
      some (iand .u64 n_1 (wu64 (x_3 - 1)))

def block_split (F : Nat) (x_1 : Int) : Option ((Int × Int)) :=
  (serial_Low F x_1 32).bind fun x_2 =>
  some (wu32 (shrp x_1 32), wu32 x_2)

def math_bits_RotateLeft64 (F : Nat) (x_1 : Int) (k_2 : Int) : Option (Int) :=
  (ishl .u64 x_1 (iand .u64 (wu64 k_2) 63)).bind fun x_3 =>
  (ishr .u64 x_1 (wu64 (64 - (iand .u64 (wu64 k_2) 63)))).bind fun x_4 =>
  some (ior .u64 x_3 x_4)

def math_bits_RotateLeft32 (F : Nat) (x_1 : Int) (k_2 : Int) : Option (Int) :=
  (ishl .u32 x_1 (iand .u64 (wu64 k_2) 31)).bind fun x_3 =>
  (ishr .u32 x_1 (wu64 (32 - (iand .u64 (wu64 k_2) 31)))).bind fun x_4 =>
  some (ior .u32 x_3 x_4)

def block_Round (F : Nat) (k_1 : Int) (i_2 : Int) (half_3 : Int) : Option (Int) :=
  (math_bits_RotateLeft64 F k_1 (remp (w64 (11 * (remp i_2 64))) 64)).bind fun x_4 =>
  (serial_Low F x_4 32).bind fun x_5 =>
  (math_bits_RotateLeft32 F (wu32 (half_3 + (wu32 x_5))) 7).bind fun x_6 =>
  (math_bits_RotateLeft32 F (wu32 x_5) 16).bind fun x_7 =>
  some (ixor .u32 (wu32 (x_6 * 2654435761)) x_7)

def block_halves_join (F : Nat) (h_1 : (Int × Int)) : Option (Int) :=
  some (ior .u64 (shlp .u64 (wu64 h_1.1) 32) (wu64 h_1.2))

def block_Mix_j1 (F : Nat) (x_4 : Int) (x_5 : Int) : Option (Int) :=
  (block_halves_join F (x_4, x_5)).bind fun x_6 =>
  some x_6

def block_Mix_l1 (F : Nat) (k_1 : Int) (x_7 : Int) (x_8 : Int) (x_9 : Int) : Option (Out (Int × Int × Int) (Int × Int)) :=
  if (decide (x_9 < 8)) = true then
    (block_Round F k_1 x_9 x_8).bind fun x_652 =>
    some (.next (x_8, ixor .u32 x_7 x_652, w64 (x_9 + 1)))
  else
    some (.done (x_7, x_8))

def block_Mix (F : Nat) (k_1 : Int) (x_2 : Int) : Option (Int) :=
  (block_split F x_2).bind fun x_3 =>
  (iter (fun s => block_Mix_l1 F k_1 s.1 s.2.1 s.2.2) F (x_3.1, x_3.2, 0)).bind fun o =>
  block_Mix_j1 F o.1 o.2

def mac_Tag_it_j1 (F : Nat) (x_7 : Int) (x_8 : Int) : Option (Out (Int × Int) (Int)) :=
  some (.next (x_8, w64 (x_7 + 8)))

def mac_Tag_b (F : Nat) (k_1 : Int) (x_6 : Int) (x_9 : Int) : Option (Int) :=
  (block_Mix F k_1 (ixor .u64 x_6 x_9)).bind fun x_11 =>
  some x_11

def mac_Tag_it_j2 (F : Nat) (k_1 : Int) (x_6 : Int) (x_7 : Int) (x_9 : Int) : Option (Out (Int × Int) (Int)) :=
  (mac_Tag_b F k_1 x_6 x_9).bind fun o_10 =>
  mac_Tag_it_j1 F x_7 o_10

def mac_Tag_it_l2 (F : Nat) (l_12 : (List Int)) (x_13 : Int) (x_14 : Int) : Option (Out (Int × Int) (Int)) :=
  if (decide (x_14 < (len l_12))) = true then
    (idx l_12 x_14).bind fun x_15 =>
    (ishl .u64 (wu64 x_15) (w64 (8 * x_14))).bind fun x_16 =>
    some (.next (ior .u64 x_13 x_16, w64 (x_14 + 1)))
  else
    some (.done (x_13))

def mac_Tag_it_l1 (F : Nat) (k_1 : Int) (b_2 : (List Int)) (x_6 : Int) (x_7 : Int) : Option (Out (Int × Int) (Int)) :=
  if (decide (x_7 < (len b_2))) = true then
    (sub b_2 x_7 (imin (w64 (x_7 + 8)) (len b_2))).bind fun l_12 =>
    (iter (fun s => mac_Tag_it_l2 F l_12 s.1 s.2) F (0, 0)).bind fun o =>
    mac_Tag_it_j2 F k_1 x_6 x_7 o
  else
    some (.done (x_6))

def mac_Tag_it (F : Nat) (k_1 : Int) (b_2 : (List Int)) (x_3 : Int) : Option (Int) :=
  (iter (fun s => mac_Tag_it_l1 F k_1 b_2 s.1 s.2) F (x_3, 0)).bind fun o =>
  some o

def mac_Tag (F : Nat) (k_1 : Int) (b_2 : (List Int)) : Option (Int) :=
  (block_Mix F k_1 (wu64 (len b_2))).bind fun x_3 =>
  (mac_Tag_it F k_1 b_2 x_3).bind fun o_4 =>
  some o_4

def mac_bytes_j1 (F : Nat) (l_2 : (List T_api_Field)) : Option ((List Int)) :=
  (octets_Put F l_2).bind fun x_3 =>
  some x_3.1

def mac_bytes_l1 (F : Nat) (numbers_1 : (List Int)) (l_4 : (List T_api_Field)) (x_5 : Int) : Option (Out ((List T_api_Field) × Int) ((List T_api_Field))) :=
  if (decide (x_5 < (len numbers_1))) = true then
    (idx numbers_1 x_5).bind fun x_6 =>
    (app 16 l_4 [(T_api_Field.mk 8 x_6)]).bind fun l_7 =>
    some (.next (l_7, w64 (x_5 + 1)))
  else
    some (.done (l_4))

def mac_bytes (F : Nat) (numbers_1 : (List Int)) : Option ((List Int)) :=
  (iter (fun s => mac_bytes_l1 F numbers_1 s.1 s.2) F ([], 0)).bind fun o =>
  mac_bytes_j1 F o

def mac_Derive (F : Nat) (k_1 : Int) (label_2 : List Int) (parts_3 : (List Int)) : Option (Int) :=
  (app 1 ([] : List Int) label_2).bind fun l_4 =>
  (mac_bytes F parts_3).bind fun x_5 =>
  (octets_Join F [l_4, [0], x_5]).bind fun x_6 =>
  (mac_Tag F k_1 x_6).bind fun x_7 =>
  some x_7

def database_Hash_j1 (F : Nat) (l_2 : (List Int)) : Option (Int) :=
  (mac_Tag F 0 l_2).bind fun x_3 =>
  (mac_Derive F 0 [104, 97, 115, 104] [x_3]).bind fun x_4 =>
  some (imax 1 x_4)

def database_Hash_j2 (F : Nat) (x_6 : Int) (l_7 : (List Int)) : Option (Out ((List Int) × Int) ((List Int))) :=
  some (.next (l_7, w64 (x_6 + 1)))

def database_Hash_j3 (F : Nat) (x_6 : Int) (x_8 : T_api_Attribute) (l_9 : (List Int)) : Option (Out ((List Int) × Int) ((List Int))) :=
  (database_declaration F x_8.f_Type).bind fun x_10 =>
  if x_10 = true then
    (database_number F 2 (wu64 (len x_8.Value))).bind fun x_13 =>
    (octets_Join F [x_13, x_8.Value]).bind fun x_14 =>
    (app 1 l_9 x_14).bind fun l_15 =>
    database_Hash_j2 F x_6 l_15
  else
    database_Hash_j2 F x_6 l_9

def database_Hash_l1 (F : Nat) (db_1 : (List T_api_Attribute)) (l_5 : (List Int)) (x_6 : Int) : Option (Out ((List Int) × Int) ((List Int))) :=
  if (decide (x_6 < (len db_1))) = true then
    (idx db_1 x_6).bind fun x_8 =>
    (database_number F 2 (wu64 x_8.Handle)).bind fun x_18 =>
    (database_number F 8 x_8.f_Type.Low).bind fun x_19 =>
    (database_number F 8 x_8.f_Type.High).bind fun x_20 =>
    (octets_Join F [x_18, x_19, x_20]).bind fun x_21 =>
    (app 1 l_5 x_21).bind fun l_22 =>
    database_Hash_j3 F x_6 x_8 l_22
  else
    some (.done (l_5))

def database_Hash (F : Nat) (db_1 : (List T_api_Attribute)) : Option (Int) :=
  (iter (fun s => database_Hash_l1 F db_1 s.1 s.2) F ([], 0)).bind fun o =>
  database_Hash_j1 F o

def wirelesslaw43_DatabaseSets (F : Nat) (db_1 : (List T_api_Attribute)) (handle_2 : Int) (value_3 : (List Int)) : Option (Bool) :=
  (wirelesslaw43_fine F db_1).bind fun x_4 =>
  if ((!x_4) || (decide ((len value_3) > 4096))) = true then
    (wirelesslaw43_exampleHolds F).bind fun x_5 =>
    some x_5
  else
    (database_Set F db_1 handle_2 value_3).bind fun x_6 =>
    (wirelessref43_Set F db_1 handle_2 value_3).bind fun x_7 =>
    (if (x_6.2 != x_7.2) = true then
      some (true)
    else
      (wirelessref43_SameDB F x_6.1 x_7.1).bind fun x_28 =>
      some ((!x_28))).bind fun z_9 =>
    if z_9 = true then
      some false
    else
      if (x_6.2 != 0) = true then
        (wirelesslaw43_exampleHolds F).bind fun x_10 =>
        some x_10
      else
        (database_Check F x_6.1).bind fun x_11 =>
        (if (x_11 == 0) = true then
          (database_Found F x_6.1).bind fun x_24 =>
          (database_Found F db_1).bind fun x_25 =>
          (wirelessref43_SameFound F x_24 x_25).bind fun x_26 =>
          some (x_26)
        else
          some (false)).bind fun z_13 =>
        (if z_13 = true then
          (database_Hash F x_6.1).bind fun x_21 =>
          (database_Hash F db_1).bind fun x_22 =>
          some ((x_21 == x_22))
        else
          some (false)).bind fun z_15 =>
        (if z_15 = true then
          (wirelesslaw43_exampleHolds F).bind fun x_19 =>
          some (x_19)
        else
          some (false)).bind fun z_17 =>
        some z_17

end V
end Go.Proofs.Ytchlimkophmjlaa
