/-
  Pure twins of more Go functions, written by program; the plain law names them.
-/
import Derived.Test.YtchlimkophmjlaaFn
namespace Go.Proofs.Ytchlimkophmjlaa
namespace V
def wirelesslaw43_light_j1 (F : Nat) (db_1 : (List T_api_Attribute)) (x_2 : Int) : Option (Bool) :=
  some ((decide ((len db_1) ≤ 1100)) && (decide (x_2 ≤ 8192)))

def wirelesslaw43_light_l1 (F : Nat) (db_1 : (List T_api_Attribute)) (x_3 : Int) (x_4 : Int) : Option (Out (Int × Int) (Sum (Int) (Bool))) :=
  if ((decide (x_4 < (len db_1))) && (decide (x_4 < 1100))) = true then
    (idx db_1 x_4).bind fun x_5 =>
    if (decide ((len x_5.Value) > 8192)) = true then
      some (.done (.inr false))
    else
      (idx db_1 x_4).bind fun x_6 =>
      some (.next (w64 (x_3 + (len x_6.Value)), w64 (x_4 + 1)))
  else
    some (.done (.inl (x_3)))

def wirelesslaw43_light (F : Nat) (db_1 : (List T_api_Attribute)) : Option (Bool) :=
  (iter (fun s => wirelesslaw43_light_l1 F db_1 s.1 s.2) F (0, 0)).bind fun o =>
  match o with
  | .inl u => wirelesslaw43_light_j1 F db_1 u
  | .inr u => some u

def wirelessref43_Is_j1 (F : Nat) (z_3 : Bool) : Option (Bool) :=
  some z_3

def wirelessref43_Is (F : Nat) (t_1 : T_api_UUID) (n_2 : Int) : Option (Bool) :=
  (wirelessref41_Short F n_2).bind fun x_6 =>
  wirelessref43_Is_j1 F ((t_1.High == x_6.High) && (t_1.Low == x_6.Low))

def wirelessref43_IsService (F : Nat) (a_1 : T_api_Attribute) : Option (Bool) :=
  (wirelessref43_Is F a_1.f_Type 10240).bind fun x_2 =>
  (if x_2 = true then
    some (true)
  else
    (wirelessref43_Is F a_1.f_Type 10241).bind fun x_6 =>
    some (x_6)).bind fun z_4 =>
  some z_4

def wirelessref43_declares (F : Nat) (t_1 : T_api_UUID) : Option (Bool) :=
  (wirelessref43_Is F t_1 10240).bind fun x_2 =>
  (if x_2 = true then
    some (true)
  else
    (wirelessref43_Is F t_1 10241).bind fun x_14 =>
    some (x_14)).bind fun z_4 =>
  (if z_4 = true then
    some (true)
  else
    (wirelessref43_Is F t_1 10242).bind fun x_12 =>
    some (x_12)).bind fun z_6 =>
  (if z_6 = true then
    some (true)
  else
    (wirelessref43_Is F t_1 10243).bind fun x_10 =>
    some (x_10)).bind fun z_8 =>
  some z_8

def wirelessref23_Num_j1 (F : Nat) (x_4 : Int) : Option (Int) :=
  some x_4

def wirelessref23_Num_l1 (F : Nat) (b_1 : (List Int)) (at_2 : Int) (x_5 : Int) (x_6 : Int) : Option (Out (Int × Int) (Int)) :=
  if (decide (x_6 ≥ 0)) = true then
    (idx b_1 (w64 (at_2 + x_6))).bind fun x_7 =>
    some (.next (wu64 ((wu64 (x_5 * 256)) + (wu64 x_7)), w64 (x_6 - 1)))
  else
    some (.done (x_5))

def wirelessref23_Num (F : Nat) (b_1 : (List Int)) (at_2 : Int) (size_3 : Int) : Option (Int) :=
  (iter (fun s => wirelessref23_Num_l1 F b_1 at_2 s.1 s.2) F (0, w64 (size_3 - 1))).bind fun o =>
  wirelessref23_Num_j1 F o

def wirelessref41_Number_j1 (F : Nat) (u_1 : T_api_UUID) (z_2 : Bool) : Option (Int × Bool) :=
  if z_2 = true then
    some (0, false)
  else
    some (wu16 (quop .u64 u_1.High 4294967296), true)

def wirelessref41_Number (F : Nat) (u_1 : T_api_UUID) : Option (Int × Bool) :=
  if (decide ((quop .u64 u_1.High 4294967296) > 65535)) = true then
    wirelessref41_Number_j1 F u_1 true
  else
    (wirelessref41_Short F (wu16 (quop .u64 u_1.High 4294967296))).bind fun x_6 =>
    wirelessref41_Number_j1 F u_1 (!((x_6.High == u_1.High) && (x_6.Low == u_1.Low)))

def wirelessref41_Decode (F : Nat) (b_1 : (List Int)) : Option (T_api_UUID × Int) :=
  if ((len b_1) == 2) = true then
    (wirelessref23_Num F b_1 0 2).bind fun x_2 =>
    (wirelessref41_Short F (wu16 x_2)).bind fun x_3 =>
    some (x_3, 0)
  else
    if (decide ((len b_1) < 16)) = true then
      some ((T_api_UUID.mk 0 0), 3)
    else
      if (decide ((len b_1) > 16)) = true then
        some ((T_api_UUID.mk 0 0), 2)
      else
        (wirelessref23_Num F b_1 0 8).bind fun x_4 =>
        (wirelessref23_Num F b_1 8 8).bind fun x_5 =>
        (wirelessref41_Number F (T_api_UUID.mk x_5 x_4)).bind fun x_6 =>
        if x_6.2 = true then
          some ((T_api_UUID.mk 0 0), 2)
        else
          some ((T_api_UUID.mk x_5 x_4), 0)

def wirelessref43_IsChar (F : Nat) (a_1 : T_api_Attribute) : Option (Bool) :=
  (wirelessref43_Is F a_1.f_Type 10243).bind fun x_2 =>
  some x_2

def wirelessref43_CharParts_j1 (F : Nat) (x_3 : T_api_UUID × Int) (x_4 : Int) (x_5 : Int) : Option (Int × Int × T_api_UUID × Bool) :=
  some (x_4, x_5, x_3.1, (x_3.2 == 0))

def wirelessref43_CharParts (F : Nat) (b_1 : (List Int)) : Option (Int × Int × T_api_UUID × Bool) :=
  if (decide ((len b_1) < 3)) = true then
    some (0, 0, (T_api_UUID.mk 0 0), false)
  else
    (sub b_1 3 (len b_1)).bind fun l_2 =>
    (wirelessref41_Decode F l_2).bind fun x_3 =>
    (idx b_1 0).bind fun x_6 =>
    (wirelessref23_Num F b_1 1 2).bind fun x_9 =>
    wirelessref43_CharParts_j1 F x_3 (w64 x_6) (wu16 x_9)

def wirelessref43_kept (F : Nat) (t_1 : T_api_UUID) : Option (Bool) :=
  (wirelessref43_declares F t_1).bind fun x_2 =>
  (if x_2 = true then
    some (true)
  else
    (wirelessref43_Is F t_1 10498).bind fun x_6 =>
    some (x_6)).bind fun z_4 =>
  some z_4

def wirelessref43_charWrong_j1 (F : Nat) (z_7 : Bool) : Option (Bool) :=
  some z_7

def wirelessref43_charWrong (F : Nat) (db_1 : (List T_api_Attribute)) (i_2 : Int) : Option (Bool) :=
  (idx db_1 i_2).bind fun x_3 =>
  (wirelessref43_CharParts F x_3.Value).bind fun x_4 =>
  (if (!x_4.2.2.2) = true then
    some (true)
  else
    (wirelessref43_kept F x_4.2.2.1).bind fun x_14 =>
    some (x_14)).bind fun z_6 =>
  if (z_6 || (decide ((w64 (i_2 + 1)) ≥ (len db_1)))) = true then
    some true
  else
    (idx db_1 (w64 (i_2 + 1))).bind fun x_8 =>
    if (x_8.Handle != x_4.2.1) = true then
      wirelessref43_charWrong_j1 F true
    else
      (idx db_1 (w64 (i_2 + 1))).bind fun x_12 =>
      wirelessref43_charWrong_j1 F (!((x_12.f_Type.High == x_4.2.2.1.High) && (x_12.f_Type.Low == x_4.2.2.1.Low)))

def wirelessref43_charOf_j1 (F : Nat) : Option (Int) :=
  some (-1)

def wirelessref43_charOf_l1 (F : Nat) (db_1 : (List T_api_Attribute)) (x_3 : Int) : Option (Out (Int) (Sum (Unit) (Int))) :=
  if (decide (x_3 ≥ 0)) = true then
    (idx db_1 x_3).bind fun x_4 =>
    (wirelessref43_IsChar F x_4).bind fun x_5 =>
    if x_5 = true then
      some (.done (.inr x_3))
    else
      (idx db_1 x_3).bind fun x_6 =>
      (wirelessref43_IsService F x_6).bind fun x_7 =>
      if x_7 = true then
        some (.done (.inr (-1)))
      else
        some (.next (w64 (x_3 - 1)))
  else
    some (.done (.inl ()))

def wirelessref43_charOf (F : Nat) (db_1 : (List T_api_Attribute)) (i_2 : Int) : Option (Int) :=
  (iter (fun s => wirelessref43_charOf_l1 F db_1 s) F (i_2)).bind fun o =>
  match o with
  | .inl u => wirelessref43_charOf_j1 F
  | .inr u => some u

def wirelessref43_configWrong_j1 (F : Nat) : Option (Bool) :=
  some false

def wirelessref43_configWrong_l1 (F : Nat) (db_1 : (List T_api_Attribute)) (i_2 : Int) (x_5 : Int) : Option (Out (Int) (Sum (Unit) (Bool))) :=
  if (decide (x_5 < i_2)) = true then
    (idx db_1 x_5).bind fun x_6 =>
    (wirelessref43_Is F x_6.f_Type 10498).bind fun x_7 =>
    if x_7 = true then
      some (.done (.inr true))
    else
      some (.next (w64 (x_5 + 1)))
  else
    some (.done (.inl ()))

def wirelessref43_configWrong (F : Nat) (db_1 : (List T_api_Attribute)) (i_2 : Int) : Option (Bool) :=
  (wirelessref43_charOf F db_1 i_2).bind fun x_3 =>
  (idx db_1 i_2).bind fun x_4 =>
  if (((len x_4.Value) != 2) || (decide (x_3 < 0))) = true then
    some true
  else
    (iter (fun s => wirelessref43_configWrong_l1 F db_1 i_2 s) F (x_3)).bind fun o =>
    match o with
    | .inl u => wirelessref43_configWrong_j1 F
    | .inr u => some u

def wirelessref43_wrong (F : Nat) (db_1 : (List T_api_Attribute)) (i_2 : Int) : Option (Bool) :=
  (idx db_1 i_2).bind fun x_3 =>
  (if (i_2 == 0) = true then
    (wirelessref43_IsService F x_3).bind fun x_25 =>
    some ((!x_25))
  else
    some (false)).bind fun z_5 =>
  (if z_5 = true then
    some (true)
  else
    (wirelessref43_declares F x_3.f_Type).bind fun x_22 =>
    if x_22 = true then
      some (((iand .i64 x_3.Perms 2) != 0))
    else
      some (false)).bind fun z_7 =>
  if z_7 = true then
    some true
  else
    (wirelessref43_IsService F x_3).bind fun x_8 =>
    if x_8 = true then
      (wirelessref41_Decode F x_3.Value).bind fun x_9 =>
      some (x_9.2 != 0)
    else
      (wirelessref43_IsChar F x_3).bind fun x_10 =>
      (if x_10 = true then
        (wirelessref43_charWrong F db_1 i_2).bind fun x_20 =>
        some (x_20)
      else
        some (false)).bind fun z_12 =>
      (if z_12 = true then
        some (true)
      else
        (wirelessref43_Is F x_3.f_Type 10498).bind fun x_16 =>
        if x_16 = true then
          (wirelessref43_configWrong F db_1 i_2).bind fun x_18 =>
          some (x_18)
        else
          some (false)).bind fun z_14 =>
      some z_14

def wirelessref43_Check_j1 (F : Nat) : Option (Int) :=
  some 0

def wirelessref43_Check_l1 (F : Nat) (db_1 : (List T_api_Attribute)) (x_2 : Int) (x_3 : Int) : Option (Out (Int × Int) (Sum (Unit) (Int))) :=
  if (decide (x_3 < (len db_1))) = true then
    (idx db_1 x_3).bind fun x_4 =>
    if (decide (x_4.Handle ≤ x_2)) = true then
      some (.done (.inr 13))
    else
      (idx db_1 x_3).bind fun x_5 =>
      (if (decide (x_5.Perms < 0)) = true then
        some (true)
      else
        (idx db_1 x_3).bind fun x_12 =>
        some (decide (x_12.Perms > 15))).bind fun z_7 =>
      if z_7 = true then
        some (.done (.inr 5))
      else
        (idx db_1 x_3).bind fun x_8 =>
        if (decide ((len x_8.Value) > 512)) = true then
          some (.done (.inr 4))
        else
          (wirelessref43_wrong F db_1 x_3).bind fun x_9 =>
          if x_9 = true then
            some (.done (.inr 1))
          else
            (idx db_1 x_3).bind fun x_10 =>
            some (.next (x_10.Handle, w64 (x_3 + 1)))
  else
    some (.done (.inl ()))

def wirelessref43_Check (F : Nat) (db_1 : (List T_api_Attribute)) : Option (Int) :=
  if (decide ((len db_1) > 1000)) = true then
    some 4
  else
    (iter (fun s => wirelessref43_Check_l1 F db_1 s.1 s.2) F (0, 0)).bind fun o =>
    match o with
    | .inl u => wirelessref43_Check_j1 F
    | .inr u => some u

def wirelesslaw43_DatabaseChecks (F : Nat) (db_1 : (List T_api_Attribute)) : Option (Bool) :=
  (wirelesslaw43_light F db_1).bind fun x_2 =>
  if (!x_2) = true then
    (wirelesslaw43_exampleHolds F).bind fun x_3 =>
    some x_3
  else
    (database_Check F db_1).bind fun x_4 =>
    (wirelessref43_Check F db_1).bind fun x_5 =>
    (if (x_4 == x_5) = true then
      (wirelesslaw43_exampleHolds F).bind fun x_9 =>
      some (x_9)
    else
      some (false)).bind fun z_7 =>
    some z_7

def wirelessref43_part (F : Nat) (t_1 : T_api_UUID) (props_2 : Int) (perms_3 : Int) (value_4 : (List Int)) : Option (Int) :=
  (wirelessref43_kept F t_1).bind fun x_5 =>
  if x_5 = true then
    some 1
  else
    if ((((decide (props_2 < 0)) || (decide (props_2 > 255))) || (decide (perms_3 < 0))) || (decide (perms_3 > 15))) = true then
      some 5
    else
      if (decide ((len value_4) > 512)) = true then
        some 4
      else
        some 0

def wirelessref43_checkServices_j1 (F : Nat) (x_2 : Int) : Option (Int × Int) :=
  some (x_2, 0)

def wirelessref43_checkServices_j2 (F : Nat) (x_4 : Int) (x_5 : Int) : Option (Out (Int × Int) (Sum (Int) (Int × Int))) :=
  some (.next (x_5, w64 (x_4 + 1)))

def wirelessref43_checkServices_j3 (F : Nat) (x_7 : Int) (x_9 : Int) : Option (Out (Int × Int) (Sum (Int) (Int × Int))) :=
  some (.next (x_9, w64 (x_7 + 1)))

def wirelessref43_checkServices_j5 (F : Nat) (x_14 : Int) (x_15 : Int) : Option (Out (Int) (Sum (Int) (Int × Int))) :=
  if (x_15 != 0) = true then
    some (.done (.inr (0, x_15)))
  else
    some (.next (w64 (x_14 + 1)))

def wirelessref43_checkServices_l3 (F : Nat) (x_11 : T_api_Char) (x_13 : Int) (x_14 : Int) : Option (Out (Int) (Sum (Int) (Int × Int))) :=
  if (decide (x_14 < (len x_11.More))) = true then
    (idx x_11.More x_14).bind fun x_16 =>
    (idx x_11.More x_14).bind fun x_17 =>
    (idx x_11.More x_14).bind fun x_18 =>
    (wirelessref43_part F x_16.f_Type 0 x_17.Perms x_18.Value).bind fun x_21 =>
    wirelessref43_checkServices_j5 F x_14 x_21
  else
    some (.done (.inl (x_13)))

def wirelessref43_checkServices_j4 (F : Nat) (x_7 : Int) (x_11 : T_api_Char) (x_13 : Int) : Option (Out (Int × Int) (Sum (Int) (Int × Int))) :=
  (iter (fun s => wirelessref43_checkServices_l3 F x_11 x_13 s) F (0)).bind fun o =>
  match o with
  | .inl u => wirelessref43_checkServices_j3 F x_7 u
  | .inr u => some (.done (.inr u))

def wirelessref43_checkServices_l2 (F : Nat) (l_1 : (List T_api_Service)) (x_4 : Int) (x_6 : Int) (x_7 : Int) : Option (Out (Int × Int) (Sum (Int) (Int × Int))) :=
  (idx l_1 x_4).bind fun x_8 =>
  if (decide (x_7 < (len x_8.Chars))) = true then
    (idx l_1 x_4).bind fun x_10 =>
    (idx x_10.Chars x_7).bind fun x_11 =>
    (wirelessref43_part F x_11.f_Type x_11.Props x_11.Perms x_11.Value).bind fun x_12 =>
    if (x_12 != 0) = true then
      some (.done (.inr (0, x_12)))
    else
      if ((iand .i64 x_11.Props 48) != 0) = true then
        wirelessref43_checkServices_j4 F x_7 x_11 (w64 ((w64 ((w64 (x_6 + 2)) + (len x_11.More))) + 1))
      else
        wirelessref43_checkServices_j4 F x_7 x_11 (w64 ((w64 (x_6 + 2)) + (len x_11.More)))
  else
    some (.done (.inl (x_6)))

def wirelessref43_checkServices_l1 (F : Nat) (l_1 : (List T_api_Service)) (x_3 : Int) (x_4 : Int) : Option (Out (Int × Int) (Sum (Int) (Int × Int))) :=
  if (decide (x_4 < (len l_1))) = true then
    (iter (fun s => wirelessref43_checkServices_l2 F l_1 x_4 s.1 s.2) F (w64 (x_3 + 1), 0)).bind fun o =>
    match o with
    | .inl u => wirelessref43_checkServices_j2 F x_4 u
    | .inr u => some (.done (.inr u))
  else
    some (.done (.inl (x_3)))

def wirelessref43_checkServices (F : Nat) (l_1 : (List T_api_Service)) : Option (Int × Int) :=
  (iter (fun s => wirelessref43_checkServices_l1 F l_1 s.1 s.2) F (0, 0)).bind fun o =>
  match o with
  | .inl u => wirelessref43_checkServices_j1 F u
  | .inr u => some u

def wirelessref23_Put_j1 (F : Nat) (l_3 : (List Int)) : Option ((List Int)) :=
  some l_3

def wirelessref23_Put_l1 (F : Nat) (size_2 : Int) (x_4 : Int) (l_5 : (List Int)) (x_6 : Int) : Option (Out (Int × (List Int) × Int) ((List Int))) :=
  if (decide (x_6 < size_2)) = true then
    (app 1 l_5 [wu8 (remp x_4 256)]).bind fun l_7 =>
    some (.next ((quop .u64 x_4 256), l_7, w64 (x_6 + 1)))
  else
    some (.done (l_5))

def wirelessref23_Put (F : Nat) (n_1 : Int) (size_2 : Int) : Option ((List Int)) :=
  (iter (fun s => wirelessref23_Put_l1 F size_2 s.1 s.2.1 s.2.2) F (n_1, [], 0)).bind fun o =>
  wirelessref23_Put_j1 F o

def wirelessref41_Encode_j1 (F : Nat) (l_4 : (List Int)) : Option ((List Int)) :=
  some l_4

def wirelessref41_Encode (F : Nat) (u_1 : T_api_UUID) : Option ((List Int)) :=
  (wirelessref41_Number F u_1).bind fun x_2 =>
  if x_2.2 = true then
    (wirelessref23_Put F (wu64 x_2.1) 2).bind fun x_3 =>
    some x_3
  else
    (wirelessref23_Put F u_1.Low 8).bind fun x_7 =>
    (wirelessref23_Put F u_1.High 8).bind fun x_8 =>
    (app 1 x_7 x_8).bind fun l_9 =>
    wirelessref41_Encode_j1 F l_9

def wirelessref43_add_j1 (F : Nat) (l_6 : (List T_api_Attribute)) : Option ((List T_api_Attribute)) :=
  some l_6

def wirelessref43_add (F : Nat) (db_1 : (List T_api_Attribute)) (first_2 : Int) (t_3 : T_api_UUID) (perms_4 : Int) (value_5 : (List Int)) : Option ((List T_api_Attribute)) :=
  (app 1 ([] : (List Int)) value_5).bind fun l_809 =>
  (app 56 db_1 [(T_api_Attribute.mk (wu16 (first_2 + (wu16 (len db_1)))) t_3 perms_4 l_809)]).bind fun l_1049 =>
  wirelessref43_add_j1 F l_1049

def wirelessref43_addChar_j4 (F : Nat) (l_8 : (List T_api_Attribute)) : Option ((List T_api_Attribute)) :=
  some l_8

def wirelessref43_addChar_l1 (F : Nat) (first_2 : Int) (c_3 : T_api_Char) (l_9 : (List T_api_Attribute)) (x_10 : Int) : Option (Out ((List T_api_Attribute) × Int) ((List T_api_Attribute))) :=
  if (decide (x_10 < (len c_3.More))) = true then
    (idx c_3.More x_10).bind fun x_11 =>
    (idx c_3.More x_10).bind fun x_12 =>
    (idx c_3.More x_10).bind fun x_13 =>
    (wirelessref43_add F l_9 first_2 x_11.f_Type x_12.Perms x_13.Value).bind fun x_16 =>
    some (.next (x_16, w64 (x_10 + 1)))
  else
    some (.done (l_9))

def wirelessref43_addChar_j3 (F : Nat) (first_2 : Int) (c_3 : T_api_Char) (l_7 : (List T_api_Attribute)) : Option ((List T_api_Attribute)) :=
  (iter (fun s => wirelessref43_addChar_l1 F first_2 c_3 s.1 s.2) F (l_7, 0)).bind fun o =>
  wirelessref43_addChar_j4 F o

def wirelessref43_addChar_j2 (F : Nat) (first_2 : Int) (c_3 : T_api_Char) (l_5 : (List T_api_Attribute)) : Option ((List T_api_Attribute)) :=
  (wirelessref43_add F l_5 first_2 c_3.f_Type c_3.Perms c_3.Value).bind fun x_6 =>
  if ((iand .i64 c_3.Props 48) != 0) = true then
    (wirelessref41_Short F 10498).bind fun x_17 =>
    (wirelessref43_add F x_6 first_2 x_17 3 [0, 0]).bind fun x_18 =>
    wirelessref43_addChar_j3 F first_2 c_3 x_18
  else
    wirelessref43_addChar_j3 F first_2 c_3 x_6

def wirelessref43_addChar_j1 (F : Nat) (db_1 : (List T_api_Attribute)) (first_2 : Int) (c_3 : T_api_Char) (l_4 : (List Int)) : Option ((List T_api_Attribute)) :=
  (wirelessref41_Short F 10243).bind fun x_21 =>
  (wirelessref41_Encode F c_3.f_Type).bind fun x_22 =>
  (app 1 l_4 x_22).bind fun l_23 =>
  (wirelessref43_add F db_1 first_2 x_21 1 l_23).bind fun x_24 =>
  wirelessref43_addChar_j2 F first_2 c_3 x_24

def wirelessref43_addChar (F : Nat) (db_1 : (List T_api_Attribute)) (first_2 : Int) (c_3 : T_api_Char) : Option ((List T_api_Attribute)) :=
  (wirelessref23_Put F (wu64 (w64 ((w64 ((w64 first_2) + (len db_1))) + 1))) 2).bind fun x_907 =>
  (app 1 [wu8 c_3.Props] x_907).bind fun l_987 =>
  wirelessref43_addChar_j1 F db_1 first_2 c_3 l_987

def wirelessref43_Build_j1 (F : Nat) (l_4 : (List T_api_Attribute)) : Option ((List T_api_Attribute) × Int) :=
  some (l_4, 0)

def wirelessref43_Build_j2 (F : Nat) (x_6 : Int) (l_7 : (List T_api_Attribute)) : Option (Out ((List T_api_Attribute) × Int) ((List T_api_Attribute))) :=
  some (.next (l_7, w64 (x_6 + 1)))

def wirelessref43_Build_l2 (F : Nat) (l_1 : (List T_api_Service)) (first_2 : Int) (x_6 : Int) (l_10 : (List T_api_Attribute)) (x_11 : Int) : Option (Out ((List T_api_Attribute) × Int) ((List T_api_Attribute))) :=
  (idx l_1 x_6).bind fun x_12 =>
  if (decide (x_11 < (len x_12.Chars))) = true then
    (idx l_1 x_6).bind fun x_13 =>
    (idx x_13.Chars x_11).bind fun x_14 =>
    (wirelessref43_addChar F l_10 first_2 x_14).bind fun x_15 =>
    some (.next (x_15, w64 (x_11 + 1)))
  else
    some (.done (l_10))

def wirelessref43_Build_j4 (F : Nat) (l_1 : (List T_api_Service)) (first_2 : Int) (x_6 : Int) (l_9 : (List T_api_Attribute)) : Option (Out ((List T_api_Attribute) × Int) ((List T_api_Attribute))) :=
  (iter (fun s => wirelessref43_Build_l2 F l_1 first_2 x_6 s.1 s.2) F (l_9, 0)).bind fun o =>
  wirelessref43_Build_j2 F x_6 o

def wirelessref43_Build_j3 (F : Nat) (l_1 : (List T_api_Service)) (first_2 : Int) (l_5 : (List T_api_Attribute)) (x_6 : Int) (x_8 : Int) : Option (Out ((List T_api_Attribute) × Int) ((List T_api_Attribute))) :=
  (idx l_1 x_6).bind fun x_16 =>
  (wirelessref41_Short F x_8).bind fun x_19 =>
  (wirelessref41_Encode F x_16.f_Type).bind fun x_20 =>
  (wirelessref43_add F l_5 first_2 x_19 1 x_20).bind fun x_21 =>
  wirelessref43_Build_j4 F l_1 first_2 x_6 x_21

def wirelessref43_Build_l1 (F : Nat) (l_1 : (List T_api_Service)) (first_2 : Int) (l_5 : (List T_api_Attribute)) (x_6 : Int) : Option (Out ((List T_api_Attribute) × Int) ((List T_api_Attribute))) :=
  if (decide (x_6 < (len l_1))) = true then
    (idx l_1 x_6).bind fun x_22 =>
    if x_22.Primary = true then
      wirelessref43_Build_j3 F l_1 first_2 l_5 x_6 10240
    else
      wirelessref43_Build_j3 F l_1 first_2 l_5 x_6 10241
  else
    some (.done (l_5))

def wirelessref43_Build (F : Nat) (l_1 : (List T_api_Service)) (first_2 : Int) : Option ((List T_api_Attribute) × Int) :=
  if (first_2 == 0) = true then
    some ([], 5)
  else
    (wirelessref43_checkServices F l_1).bind fun x_3 =>
    if (x_3.2 != 0) = true then
      some ([], x_3.2)
    else
      if (decide (x_3.1 > 1000)) = true then
        some ([], 4)
      else
        if (decide ((w64 ((w64 ((w64 first_2) + x_3.1)) - 1)) > 65535)) = true then
          some ([], 8)
        else
          (iter (fun s => wirelessref43_Build_l1 F l_1 first_2 s.1 s.2) F ([], 0)).bind fun o =>
          wirelessref43_Build_j1 F o

def wirelessref43_SameDB_j1 (F : Nat) : Option (Bool) :=
  some true

def wirelessref43_SameDB_j2 (F : Nat) (x_3 : Int) (z_4 : Bool) : Option (Out (Int) (Sum (Unit) (Bool))) :=
  if z_4 = true then
    some (.done (.inr false))
  else
    some (.next (w64 (x_3 + 1)))

def wirelessref43_SameDB_l1 (F : Nat) (a_1 : (List T_api_Attribute)) (b_2 : (List T_api_Attribute)) (x_3 : Int) : Option (Out (Int) (Sum (Unit) (Bool))) :=
  if (decide (x_3 < (len a_1))) = true then
    (idx a_1 x_3).bind fun x_5 =>
    (idx b_2 x_3).bind fun x_6 =>
    if (x_5.Handle != x_6.Handle) = true then
      wirelessref43_SameDB_j2 F x_3 true
    else
      (idx a_1 x_3).bind fun x_1130 =>
      (idx b_2 x_3).bind fun x_1530 =>
      if (!((x_1130.f_Type.High == x_1530.f_Type.High) && (x_1130.f_Type.Low == x_1530.f_Type.Low))) = true then
        wirelessref43_SameDB_j2 F x_3 true
      else
        (idx a_1 x_3).bind fun x_6331 =>
        (idx b_2 x_3).bind fun x_6731 =>
        if (x_6331.Perms != x_6731.Perms) = true then
          wirelessref43_SameDB_j2 F x_3 true
        else
          (idx a_1 x_3).bind fun x_11532 =>
          (idx b_2 x_3).bind fun x_11932 =>
          (wirelessref23_Same F x_11532.Value x_11932.Value).bind fun x_12172 =>
          wirelessref43_SameDB_j2 F x_3 (!x_12172)
  else
    some (.done (.inl ()))

def wirelessref43_SameDB (F : Nat) (a_1 : (List T_api_Attribute)) (b_2 : (List T_api_Attribute)) : Option (Bool) :=
  if ((len a_1) != (len b_2)) = true then
    some false
  else
    (iter (fun s => wirelessref43_SameDB_l1 F a_1 b_2 s) F (0)).bind fun o =>
    match o with
    | .inl u => wirelessref43_SameDB_j1 F
    | .inr u => some u

def wirelesslaw43_DatabaseBuilds (F : Nat) (l_1 : (List T_api_Service)) (first_2 : Int) : Option (Bool) :=
  (wirelesslaw43_small F l_1).bind fun x_3 =>
  if (!x_3) = true then
    (wirelesslaw43_exampleHolds F).bind fun x_4 =>
    some x_4
  else
    (database_Build F l_1 first_2).bind fun x_5 =>
    (wirelessref43_Build F l_1 first_2).bind fun x_6 =>
    (if (x_5.2 == x_6.2) = true then
      (wirelessref43_SameDB F x_5.1 x_6.1).bind fun x_14 =>
      some (x_14)
    else
      some (false)).bind fun z_8 =>
    (if z_8 = true then
      (wirelesslaw43_exampleHolds F).bind fun x_12 =>
      some (x_12)
    else
      some (false)).bind fun z_10 =>
    some z_10

def wirelesslaw43_fine (F : Nat) (db_1 : (List T_api_Attribute)) : Option (Bool) :=
  (if (decide ((len db_1) ≤ 100)) = true then
    (wirelesslaw43_light F db_1).bind fun x_9 =>
    some (x_9)
  else
    some (false)).bind fun z_3 =>
  (if z_3 = true then
    (wirelessref43_Check F db_1).bind fun x_7 =>
    some ((x_7 == 0))
  else
    some (false)).bind fun z_5 =>
  some z_5

def wirelessref43_Find_j1 (F : Nat) : Option (Int) :=
  some (-1)

def wirelessref43_Find_l1 (F : Nat) (db_1 : (List T_api_Attribute)) (handle_2 : Int) (x_3 : Int) : Option (Out (Int) (Sum (Unit) (Int))) :=
  if (decide (x_3 < (len db_1))) = true then
    (idx db_1 x_3).bind fun x_4 =>
    if (x_4.Handle == handle_2) = true then
      some (.done (.inr x_3))
    else
      some (.next (w64 (x_3 + 1)))
  else
    some (.done (.inl ()))

def wirelessref43_Find (F : Nat) (db_1 : (List T_api_Attribute)) (handle_2 : Int) : Option (Int) :=
  (iter (fun s => wirelessref43_Find_l1 F db_1 handle_2 s) F (0)).bind fun o =>
  match o with
  | .inl u => wirelessref43_Find_j1 F
  | .inr u => some u

def wirelessref43_Group_j1 (F : Nat) (x_6 : Int) : Option (Int × Bool) :=
  some (x_6, true)

def wirelessref43_Group_l1 (F : Nat) (db_1 : (List T_api_Attribute)) (x_7 : Int) (x_8 : Int) : Option (Out (Int × Int) (Int)) :=
  (if (decide (x_8 < (len db_1))) = true then
    (idx db_1 x_8).bind fun x_13 =>
    (wirelessref43_IsService F x_13).bind fun x_14 =>
    some ((!x_14))
  else
    some (false)).bind fun z_10 =>
  if z_10 = true then
    (idx db_1 x_8).bind fun x_11 =>
    some (.next (x_11.Handle, w64 (x_8 + 1)))
  else
    some (.done (x_7))

def wirelessref43_Group (F : Nat) (db_1 : (List T_api_Attribute)) (handle_2 : Int) : Option (Int × Bool) :=
  (wirelessref43_Find F db_1 handle_2).bind fun x_3 =>
  (if (decide (x_3 < 0)) = true then
    some (true)
  else
    (idx db_1 x_3).bind fun x_16 =>
    (wirelessref43_IsService F x_16).bind fun x_17 =>
    some ((!x_17))).bind fun z_5 =>
  if z_5 = true then
    some (0, false)
  else
    (iter (fun s => wirelessref43_Group_l1 F db_1 s.1 s.2) F (handle_2, w64 (x_3 + 1))).bind fun o =>
    wirelessref43_Group_j1 F o

def database_Range_j1 (F : Nat) (l_4 : (List T_api_Attribute)) : Option ((List T_api_Attribute)) :=
  some l_4

def database_Range_j2 (F : Nat) (x_6 : Int) (l_7 : (List T_api_Attribute)) : Option (Out ((List T_api_Attribute) × Int) ((List T_api_Attribute))) :=
  some (.next (l_7, w64 (x_6 + 1)))

def database_Range_l1 (F : Nat) (db_1 : (List T_api_Attribute)) (first_2 : Int) (last_3 : Int) (l_5 : (List T_api_Attribute)) (x_6 : Int) : Option (Out ((List T_api_Attribute) × Int) ((List T_api_Attribute))) :=
  if (decide (x_6 < (len db_1))) = true then
    (idx db_1 x_6).bind fun x_8 =>
    if ((decide (x_8.Handle ≥ first_2)) && (decide (x_8.Handle ≤ last_3))) = true then
      (database_copied F x_8).bind fun x_9 =>
      (app 56 l_5 [x_9]).bind fun l_10 =>
      database_Range_j2 F x_6 l_10
    else
      database_Range_j2 F x_6 l_5
  else
    some (.done (l_5))

def database_Range (F : Nat) (db_1 : (List T_api_Attribute)) (first_2 : Int) (last_3 : Int) : Option ((List T_api_Attribute)) :=
  (iter (fun s => database_Range_l1 F db_1 first_2 last_3 s.1 s.2) F ([], 0)).bind fun o =>
  database_Range_j1 F o

def wirelessref43_Range_j1 (F : Nat) (l_4 : (List T_api_Attribute)) : Option ((List T_api_Attribute)) :=
  some l_4

def wirelessref43_Range_j2 (F : Nat) (x_6 : Int) (l_7 : (List T_api_Attribute)) : Option (Out ((List T_api_Attribute) × Int) ((List T_api_Attribute))) :=
  some (.next (l_7, w64 (x_6 + 1)))

def wirelessref43_Range_l1 (F : Nat) (db_1 : (List T_api_Attribute)) (first_2 : Int) (last_3 : Int) (l_5 : (List T_api_Attribute)) (x_6 : Int) : Option (Out ((List T_api_Attribute) × Int) ((List T_api_Attribute))) :=
  if (decide (x_6 < (len db_1))) = true then
    (idx db_1 x_6).bind fun x_8 =>
    (if (decide (x_8.Handle ≥ first_2)) = true then
      (idx db_1 x_6).bind fun x_14 =>
      some (decide (x_14.Handle ≤ last_3))
    else
      some (false)).bind fun z_10 =>
    if z_10 = true then
      (idx db_1 x_6).bind fun x_11 =>
      (app 56 l_5 [x_11]).bind fun l_12 =>
      wirelessref43_Range_j2 F x_6 l_12
    else
      wirelessref43_Range_j2 F x_6 l_5
  else
    some (.done (l_5))

def wirelessref43_Range (F : Nat) (db_1 : (List T_api_Attribute)) (first_2 : Int) (last_3 : Int) : Option ((List T_api_Attribute)) :=
  (iter (fun s => wirelessref43_Range_l1 F db_1 first_2 last_3 s.1 s.2) F ([], 0)).bind fun o =>
  wirelessref43_Range_j1 F o

def wirelesslaw43_DatabaseFinds (F : Nat) (db_1 : (List T_api_Attribute)) (first_2 : Int) (last_3 : Int) : Option (Bool) :=
  (wirelesslaw43_fine F db_1).bind fun x_4 =>
  if (!x_4) = true then
    (wirelesslaw43_exampleHolds F).bind fun x_5 =>
    some x_5
  else
    (database_Group F db_1 first_2).bind fun x_6 =>
    (wirelessref43_Group F db_1 first_2).bind fun x_7 =>
    (database_Find F db_1 first_2).bind fun x_8 =>
    (wirelessref43_Find F db_1 first_2).bind fun x_9 =>
    (if (((x_8 == x_9) && (x_6.1 == x_7.1)) && (x_6.2 == x_7.2)) = true then
      (database_Range F db_1 first_2 last_3).bind fun x_17 =>
      (wirelessref43_Range F db_1 first_2 last_3).bind fun x_18 =>
      (wirelessref43_SameDB F x_17 x_18).bind fun x_19 =>
      some (x_19)
    else
      some (false)).bind fun z_11 =>
    (if z_11 = true then
      (wirelesslaw43_exampleHolds F).bind fun x_15 =>
      some (x_15)
    else
      some (false)).bind fun z_13 =>
    some z_13

def wirelesslaw43_DatabaseCovers_j1 (F : Nat) (db_1 : (List T_api_Attribute)) (x_4 : Int) : Option (Bool) :=
  (if (x_4 == (len db_1)) = true then
    (wirelesslaw43_exampleHolds F).bind fun x_8 =>
    some (x_8)
  else
    some (false)).bind fun z_6 =>
  some z_6

def wirelesslaw43_DatabaseCovers_j2 (F : Nat) (x_10 : Int) (x_11 : Int) : Option (Out (Int × Int) (Sum (Int) (Bool))) :=
  some (.next (x_11, w64 (x_10 + 1)))

def wirelesslaw43_DatabaseCovers_j3 (F : Nat) (x_9 : Int) (x_10 : Int) (x_15 : (List T_api_Attribute)) (z_16 : Bool) : Option (Out (Int × Int) (Sum (Int) (Bool))) :=
  if z_16 = true then
    some (.done (.inr false))
  else
    wirelesslaw43_DatabaseCovers_j2 F x_10 (w64 (x_9 + (len x_15)))

def wirelesslaw43_DatabaseCovers_l1 (F : Nat) (db_1 : (List T_api_Attribute)) (x_9 : Int) (x_10 : Int) : Option (Out (Int × Int) (Sum (Int) (Bool))) :=
  if (decide (x_10 < (len db_1))) = true then
    (idx db_1 x_10).bind fun x_12 =>
    (database_Group F db_1 x_12.Handle).bind fun x_13 =>
    if (!x_13.2) = true then
      wirelesslaw43_DatabaseCovers_j2 F x_10 x_9
    else
      (idx db_1 x_10).bind fun x_14 =>
      (database_Range F db_1 x_14.Handle x_13.1).bind fun x_15 =>
      if ((len x_15) == 0) = true then
        if (true || (decide ((w64 (x_9 + (len x_15))) > (len db_1)))) = true then
          wirelesslaw43_DatabaseCovers_j3 F x_9 x_10 x_15 true
        else
          (idx x_15 0).bind fun x_2981 =>
          (idx db_1 x_9).bind fun x_3381 =>
          wirelesslaw43_DatabaseCovers_j3 F x_9 x_10 x_15 (x_2981.Handle != x_3381.Handle)
      else
        (idx x_15 0).bind fun x_4261 =>
        (idx db_1 x_10).bind fun x_4661 =>
        if (x_4261.Handle != x_4661.Handle) = true then
          if (true || (decide ((w64 (x_9 + (len x_15))) > (len db_1)))) = true then
            wirelesslaw43_DatabaseCovers_j3 F x_9 x_10 x_15 true
          else
            (idx x_15 0).bind fun x_10663 =>
            (idx db_1 x_9).bind fun x_11063 =>
            wirelesslaw43_DatabaseCovers_j3 F x_9 x_10 x_15 (x_10663.Handle != x_11063.Handle)
        else
          (idx x_15 (w64 ((len x_15) - 1))).bind fun x_11543 =>
          if ((x_11543.Handle != x_13.1) || (decide ((w64 (x_9 + (len x_15))) > (len db_1)))) = true then
            wirelesslaw43_DatabaseCovers_j3 F x_9 x_10 x_15 true
          else
            (idx x_15 0).bind fun x_14505 =>
            (idx db_1 x_9).bind fun x_14905 =>
            wirelesslaw43_DatabaseCovers_j3 F x_9 x_10 x_15 (x_14505.Handle != x_14905.Handle)
  else
    some (.done (.inl (x_9)))

def wirelesslaw43_DatabaseCovers (F : Nat) (db_1 : (List T_api_Attribute)) : Option (Bool) :=
  (wirelesslaw43_fine F db_1).bind fun x_2 =>
  if (!x_2) = true then
    (wirelesslaw43_exampleHolds F).bind fun x_3 =>
    some x_3
  else
    (iter (fun s => wirelesslaw43_DatabaseCovers_l1 F db_1 s.1 s.2) F (0, 0)).bind fun o =>
    match o with
    | .inl u => wirelesslaw43_DatabaseCovers_j1 F db_1 u
    | .inr u => some u

end V
end Go.Proofs.Ytchlimkophmjlaa
