/-
  Pure twins of more Go functions, written by program; the plain law names them.
-/
import Derived.Test.YtchlimkophmjlaaFn
namespace Go.Proofs.Ytchlimkophmjlaa
namespace V
def wirelesslaw43_DatabaseChecks (F : Nat) (db_1 : (List T_api_Attribute)) : Option (Bool) :=
  (wirelesslaw43_light F db_1).bind fun x_2 =>
  if (!x_2) = true then
    (wirelesslaw43_exampleHolds F).bind fun x_3 =>
    some x_3
  else
    (database_Check F db_1).bind fun x_4 =>
    (wirelessref43_Check F db_1).bind fun x_5 =>
    (if (x_4 == x_5) = true then
      (wirelesslaw43_exampleHolds F).bind fun x_9 =>
      some (x_9)
    else
      some (false)).bind fun z_7 =>
    some z_7

def wirelesslaw43_small_j1 (F : Nat) (x_2 : Int) (x_3 : Int) : Option (Bool) :=
  some ((decide (x_2 ≤ 1100)) && (decide (x_3 ≤ 8192)))

def wirelesslaw43_small_j2 (F : Nat) (x_6 : Int) (x_7 : Int) (x_8 : Int) : Option (Out (Int × Int × Int) (Sum (Int × Int) (Bool))) :=
  some (.next (x_7, x_8, w64 (x_6 + 1)))

def wirelesslaw43_small_j3 (F : Nat) (x_12 : Int) (x_14 : Int) (x_15 : Int) : Option (Out (Int × Int × Int) (Sum (Int × Int) (Bool))) :=
  some (.next (x_14, x_15, w64 (x_12 + 1)))

def wirelesslaw43_small_l3 (F : Nat) (x_10 : Int) (x_17 : T_api_Char) (x_18 : Int) (x_19 : Int) : Option (Out (Int × Int) (Sum (Int × Int) (Bool))) :=
  if (decide (x_19 < (len x_17.More))) = true then
    (idx x_17.More x_19).bind fun x_20 =>
    if (decide ((len x_20.Value) > 8192)) = true then
      some (.done (.inr false))
    else
      (idx x_17.More x_19).bind fun x_21 =>
      some (.next (w64 (x_18 + (len x_21.Value)), w64 (x_19 + 1)))
  else
    some (.done (.inl (w64 (x_10 + (len x_17.More)), x_18)))

def wirelesslaw43_small_l2 (F : Nat) (l_1 : (List T_api_Service)) (x_6 : Int) (x_10 : Int) (x_11 : Int) (x_12 : Int) : Option (Out (Int × Int × Int) (Sum (Int × Int) (Bool))) :=
  (idx l_1 x_6).bind fun x_13 =>
  if ((decide (x_12 < (len x_13.Chars))) && (decide (x_10 ≤ 1100))) = true then
    (idx l_1 x_6).bind fun x_16 =>
    (idx x_16.Chars x_12).bind fun x_17 =>
    if ((decide ((len x_17.Value) > 8192)) || (decide ((w64 (x_10 + (len x_17.More))) > 1100))) = true then
      some (.done (.inr false))
    else
      (iter (fun s => wirelesslaw43_small_l3 F x_10 x_17 s.1 s.2) F (w64 (x_11 + (len x_17.Value)), 0)).bind fun o =>
      match o with
      | .inl u => wirelesslaw43_small_j3 F x_12 u.1 u.2
      | .inr u => some (.done (.inr u))
  else
    some (.done (.inl (x_10, x_11)))

def wirelesslaw43_small_l1 (F : Nat) (l_1 : (List T_api_Service)) (x_4 : Int) (x_5 : Int) (x_6 : Int) : Option (Out (Int × Int × Int) (Sum (Int × Int) (Bool))) :=
  if (((decide (x_6 < (len l_1))) && (decide (x_6 < 1100))) && (decide (x_4 ≤ 1100))) = true then
    (idx l_1 x_6).bind fun x_9 =>
    (iter (fun s => wirelesslaw43_small_l2 F l_1 x_6 s.1 s.2.1 s.2.2) F (w64 (x_4 + (len x_9.Chars)), x_5, 0)).bind fun o =>
    match o with
    | .inl u => wirelesslaw43_small_j2 F x_6 u.1 u.2
    | .inr u => some (.done (.inr u))
  else
    some (.done (.inl (x_4, x_5)))

def wirelesslaw43_small (F : Nat) (l_1 : (List T_api_Service)) : Option (Bool) :=
  (iter (fun s => wirelesslaw43_small_l1 F l_1 s.1 s.2.1 s.2.2) F (len l_1, 0, 0)).bind fun o =>
  match o with
  | .inl u => wirelesslaw43_small_j1 F u.1 u.2
  | .inr u => some u

def wirelessref43_part (F : Nat) (t_1 : T_api_UUID) (props_2 : Int) (perms_3 : Int) (value_4 : (List Int)) : Option (Int) :=
  (wirelessref43_kept F t_1).bind fun x_5 =>
  if x_5 = true then
    some 1
  else
    if ((((decide (props_2 < 0)) || (decide (props_2 > 255))) || (decide (perms_3 < 0))) || (decide (perms_3 > 15))) = true then
      some 5
    else
      if (decide ((len value_4) > 512)) = true then
        some 4
      else
        some 0

def wirelessref43_checkServices_j1 (F : Nat) (x_2 : Int) : Option (Int × Int) :=
  some (x_2, 0)

def wirelessref43_checkServices_j2 (F : Nat) (x_4 : Int) (x_5 : Int) : Option (Out (Int × Int) (Sum (Int) (Int × Int))) :=
  some (.next (x_5, w64 (x_4 + 1)))

def wirelessref43_checkServices_j3 (F : Nat) (x_7 : Int) (x_9 : Int) : Option (Out (Int × Int) (Sum (Int) (Int × Int))) :=
  some (.next (x_9, w64 (x_7 + 1)))

def wirelessref43_checkServices_j5 (F : Nat) (x_14 : Int) (x_15 : Int) : Option (Out (Int) (Sum (Int) (Int × Int))) :=
  if (x_15 != 0) = true then
    some (.done (.inr (0, x_15)))
  else
    some (.next (w64 (x_14 + 1)))

def wirelessref43_checkServices_l3 (F : Nat) (x_11 : T_api_Char) (x_13 : Int) (x_14 : Int) : Option (Out (Int) (Sum (Int) (Int × Int))) :=
  if (decide (x_14 < (len x_11.More))) = true then
    (idx x_11.More x_14).bind fun x_16 =>
    (idx x_11.More x_14).bind fun x_17 =>
    (idx x_11.More x_14).bind fun x_18 =>
    (wirelessref43_part F x_16.f_Type 0 x_17.Perms x_18.Value).bind fun x_21 =>
    wirelessref43_checkServices_j5 F x_14 x_21
  else
    some (.done (.inl (x_13)))

def wirelessref43_checkServices_j4 (F : Nat) (x_7 : Int) (x_11 : T_api_Char) (x_13 : Int) : Option (Out (Int × Int) (Sum (Int) (Int × Int))) :=
  (iter (fun s => wirelessref43_checkServices_l3 F x_11 x_13 s) F (0)).bind fun o =>
  match o with
  | .inl u => wirelessref43_checkServices_j3 F x_7 u
  | .inr u => some (.done (.inr u))

def wirelessref43_checkServices_l2 (F : Nat) (l_1 : (List T_api_Service)) (x_4 : Int) (x_6 : Int) (x_7 : Int) : Option (Out (Int × Int) (Sum (Int) (Int × Int))) :=
  (idx l_1 x_4).bind fun x_8 =>
  if (decide (x_7 < (len x_8.Chars))) = true then
    (idx l_1 x_4).bind fun x_10 =>
    (idx x_10.Chars x_7).bind fun x_11 =>
    (wirelessref43_part F x_11.f_Type x_11.Props x_11.Perms x_11.Value).bind fun x_12 =>
    if (x_12 != 0) = true then
      some (.done (.inr (0, x_12)))
    else
      if ((iand .i64 x_11.Props 48) != 0) = true then
        wirelessref43_checkServices_j4 F x_7 x_11 (w64 ((w64 ((w64 (x_6 + 2)) + (len x_11.More))) + 1))
      else
        wirelessref43_checkServices_j4 F x_7 x_11 (w64 ((w64 (x_6 + 2)) + (len x_11.More)))
  else
    some (.done (.inl (x_6)))

def wirelessref43_checkServices_l1 (F : Nat) (l_1 : (List T_api_Service)) (x_3 : Int) (x_4 : Int) : Option (Out (Int × Int) (Sum (Int) (Int × Int))) :=
  if (decide (x_4 < (len l_1))) = true then
    (iter (fun s => wirelessref43_checkServices_l2 F l_1 x_4 s.1 s.2) F (w64 (x_3 + 1), 0)).bind fun o =>
    match o with
    | .inl u => wirelessref43_checkServices_j2 F x_4 u
    | .inr u => some (.done (.inr u))
  else
    some (.done (.inl (x_3)))

def wirelessref43_checkServices (F : Nat) (l_1 : (List T_api_Service)) : Option (Int × Int) :=
  (iter (fun s => wirelessref43_checkServices_l1 F l_1 s.1 s.2) F (0, 0)).bind fun o =>
  match o with
  | .inl u => wirelessref43_checkServices_j1 F u
  | .inr u => some u

def wirelessref41_Encode_j1 (F : Nat) (l_4 : (List Int)) : Option ((List Int)) :=
  some l_4

def wirelessref41_Encode (F : Nat) (u_1 : T_api_UUID) : Option ((List Int)) :=
  (wirelessref41_Number F u_1).bind fun x_2 =>
  if x_2.2 = true then
    (wirelessref23_Put F (wu64 x_2.1) 2).bind fun x_3 =>
    some x_3
  else
    (wirelessref23_Put F u_1.Low 8).bind fun x_7 =>
    (wirelessref23_Put F u_1.High 8).bind fun x_8 =>
    (app 1 x_7 x_8).bind fun l_9 =>
    wirelessref41_Encode_j1 F l_9

def wirelessref43_add_j1 (F : Nat) (l_6 : (List T_api_Attribute)) : Option ((List T_api_Attribute)) :=
  some l_6

def wirelessref43_add (F : Nat) (db_1 : (List T_api_Attribute)) (first_2 : Int) (t_3 : T_api_UUID) (perms_4 : Int) (value_5 : (List Int)) : Option ((List T_api_Attribute)) :=
  (app 1 ([] : (List Int)) value_5).bind fun l_809 =>
  (app 56 db_1 [(T_api_Attribute.mk (wu16 (first_2 + (wu16 (len db_1)))) t_3 perms_4 l_809)]).bind fun l_1049 =>
  wirelessref43_add_j1 F l_1049

def wirelessref43_addChar_j4 (F : Nat) (l_8 : (List T_api_Attribute)) : Option ((List T_api_Attribute)) :=
  some l_8

def wirelessref43_addChar_l1 (F : Nat) (first_2 : Int) (c_3 : T_api_Char) (l_9 : (List T_api_Attribute)) (x_10 : Int) : Option (Out ((List T_api_Attribute) × Int) ((List T_api_Attribute))) :=
  if (decide (x_10 < (len c_3.More))) = true then
    (idx c_3.More x_10).bind fun x_11 =>
    (idx c_3.More x_10).bind fun x_12 =>
    (idx c_3.More x_10).bind fun x_13 =>
    (wirelessref43_add F l_9 first_2 x_11.f_Type x_12.Perms x_13.Value).bind fun x_16 =>
    some (.next (x_16, w64 (x_10 + 1)))
  else
    some (.done (l_9))

def wirelessref43_addChar_j3 (F : Nat) (first_2 : Int) (c_3 : T_api_Char) (l_7 : (List T_api_Attribute)) : Option ((List T_api_Attribute)) :=
  (iter (fun s => wirelessref43_addChar_l1 F first_2 c_3 s.1 s.2) F (l_7, 0)).bind fun o =>
  wirelessref43_addChar_j4 F o

def wirelessref43_addChar_j2 (F : Nat) (first_2 : Int) (c_3 : T_api_Char) (l_5 : (List T_api_Attribute)) : Option ((List T_api_Attribute)) :=
  (wirelessref43_add F l_5 first_2 c_3.f_Type c_3.Perms c_3.Value).bind fun x_6 =>
  if ((iand .i64 c_3.Props 48) != 0) = true then
    (wirelessref41_Short F 10498).bind fun x_17 =>
    (wirelessref43_add F x_6 first_2 x_17 3 [0, 0]).bind fun x_18 =>
    wirelessref43_addChar_j3 F first_2 c_3 x_18
  else
    wirelessref43_addChar_j3 F first_2 c_3 x_6

def wirelessref43_addChar_j1 (F : Nat) (db_1 : (List T_api_Attribute)) (first_2 : Int) (c_3 : T_api_Char) (l_4 : (List Int)) : Option ((List T_api_Attribute)) :=
  (wirelessref41_Short F 10243).bind fun x_21 =>
  (wirelessref41_Encode F c_3.f_Type).bind fun x_22 =>
  (app 1 l_4 x_22).bind fun l_23 =>
  (wirelessref43_add F db_1 first_2 x_21 1 l_23).bind fun x_24 =>
  wirelessref43_addChar_j2 F first_2 c_3 x_24

def wirelessref43_addChar (F : Nat) (db_1 : (List T_api_Attribute)) (first_2 : Int) (c_3 : T_api_Char) : Option ((List T_api_Attribute)) :=
  (wirelessref23_Put F (wu64 (w64 ((w64 ((w64 first_2) + (len db_1))) + 1))) 2).bind fun x_907 =>
  (app 1 [wu8 c_3.Props] x_907).bind fun l_987 =>
  wirelessref43_addChar_j1 F db_1 first_2 c_3 l_987

def wirelessref43_Build_j1 (F : Nat) (l_4 : (List T_api_Attribute)) : Option ((List T_api_Attribute) × Int) :=
  some (l_4, 0)

def wirelessref43_Build_j2 (F : Nat) (x_6 : Int) (l_7 : (List T_api_Attribute)) : Option (Out ((List T_api_Attribute) × Int) ((List T_api_Attribute))) :=
  some (.next (l_7, w64 (x_6 + 1)))

def wirelessref43_Build_l2 (F : Nat) (l_1 : (List T_api_Service)) (first_2 : Int) (x_6 : Int) (l_10 : (List T_api_Attribute)) (x_11 : Int) : Option (Out ((List T_api_Attribute) × Int) ((List T_api_Attribute))) :=
  (idx l_1 x_6).bind fun x_12 =>
  if (decide (x_11 < (len x_12.Chars))) = true then
    (idx l_1 x_6).bind fun x_13 =>
    (idx x_13.Chars x_11).bind fun x_14 =>
    (wirelessref43_addChar F l_10 first_2 x_14).bind fun x_15 =>
    some (.next (x_15, w64 (x_11 + 1)))
  else
    some (.done (l_10))

def wirelessref43_Build_j4 (F : Nat) (l_1 : (List T_api_Service)) (first_2 : Int) (x_6 : Int) (l_9 : (List T_api_Attribute)) : Option (Out ((List T_api_Attribute) × Int) ((List T_api_Attribute))) :=
  (iter (fun s => wirelessref43_Build_l2 F l_1 first_2 x_6 s.1 s.2) F (l_9, 0)).bind fun o =>
  wirelessref43_Build_j2 F x_6 o

def wirelessref43_Build_j3 (F : Nat) (l_1 : (List T_api_Service)) (first_2 : Int) (l_5 : (List T_api_Attribute)) (x_6 : Int) (x_8 : Int) : Option (Out ((List T_api_Attribute) × Int) ((List T_api_Attribute))) :=
  (idx l_1 x_6).bind fun x_16 =>
  (wirelessref41_Short F x_8).bind fun x_19 =>
  (wirelessref41_Encode F x_16.f_Type).bind fun x_20 =>
  (wirelessref43_add F l_5 first_2 x_19 1 x_20).bind fun x_21 =>
  wirelessref43_Build_j4 F l_1 first_2 x_6 x_21

def wirelessref43_Build_l1 (F : Nat) (l_1 : (List T_api_Service)) (first_2 : Int) (l_5 : (List T_api_Attribute)) (x_6 : Int) : Option (Out ((List T_api_Attribute) × Int) ((List T_api_Attribute))) :=
  if (decide (x_6 < (len l_1))) = true then
    (idx l_1 x_6).bind fun x_22 =>
    if x_22.Primary = true then
      wirelessref43_Build_j3 F l_1 first_2 l_5 x_6 10240
    else
      wirelessref43_Build_j3 F l_1 first_2 l_5 x_6 10241
  else
    some (.done (l_5))

def wirelessref43_Build (F : Nat) (l_1 : (List T_api_Service)) (first_2 : Int) : Option ((List T_api_Attribute) × Int) :=
  if (first_2 == 0) = true then
    some ([], 5)
  else
    (wirelessref43_checkServices F l_1).bind fun x_3 =>
    if (x_3.2 != 0) = true then
      some ([], x_3.2)
    else
      if (decide (x_3.1 > 1000)) = true then
        some ([], 4)
      else
        if (decide ((w64 ((w64 ((w64 first_2) + x_3.1)) - 1)) > 65535)) = true then
          some ([], 8)
        else
          (iter (fun s => wirelessref43_Build_l1 F l_1 first_2 s.1 s.2) F ([], 0)).bind fun o =>
          wirelessref43_Build_j1 F o

def wirelessref43_SameDB_j1 (F : Nat) : Option (Bool) :=
  some true

def wirelessref43_SameDB_j2 (F : Nat) (x_3 : Int) (z_4 : Bool) : Option (Out (Int) (Sum (Unit) (Bool))) :=
  if z_4 = true then
    some (.done (.inr false))
  else
    some (.next (w64 (x_3 + 1)))

def wirelessref43_SameDB_l1 (F : Nat) (a_1 : (List T_api_Attribute)) (b_2 : (List T_api_Attribute)) (x_3 : Int) : Option (Out (Int) (Sum (Unit) (Bool))) :=
  if (decide (x_3 < (len a_1))) = true then
    (idx a_1 x_3).bind fun x_5 =>
    (idx b_2 x_3).bind fun x_6 =>
    if (x_5.Handle != x_6.Handle) = true then
      wirelessref43_SameDB_j2 F x_3 true
    else
      (idx a_1 x_3).bind fun x_1130 =>
      (idx b_2 x_3).bind fun x_1530 =>
      if (!((x_1130.f_Type.High == x_1530.f_Type.High) && (x_1130.f_Type.Low == x_1530.f_Type.Low))) = true then
        wirelessref43_SameDB_j2 F x_3 true
      else
        (idx a_1 x_3).bind fun x_6331 =>
        (idx b_2 x_3).bind fun x_6731 =>
        if (x_6331.Perms != x_6731.Perms) = true then
          wirelessref43_SameDB_j2 F x_3 true
        else
          (idx a_1 x_3).bind fun x_11532 =>
          (idx b_2 x_3).bind fun x_11932 =>
          (wirelessref23_Same F x_11532.Value x_11932.Value).bind fun x_12172 =>
          wirelessref43_SameDB_j2 F x_3 (!x_12172)
  else
    some (.done (.inl ()))

def wirelessref43_SameDB (F : Nat) (a_1 : (List T_api_Attribute)) (b_2 : (List T_api_Attribute)) : Option (Bool) :=
  if ((len a_1) != (len b_2)) = true then
    some false
  else
    (iter (fun s => wirelessref43_SameDB_l1 F a_1 b_2 s) F (0)).bind fun o =>
    match o with
    | .inl u => wirelessref43_SameDB_j1 F
    | .inr u => some u

def wirelesslaw43_DatabaseBuilds (F : Nat) (l_1 : (List T_api_Service)) (first_2 : Int) : Option (Bool) :=
  (wirelesslaw43_small F l_1).bind fun x_3 =>
  if (!x_3) = true then
    (wirelesslaw43_exampleHolds F).bind fun x_4 =>
    some x_4
  else
    (database_Build F l_1 first_2).bind fun x_5 =>
    (wirelessref43_Build F l_1 first_2).bind fun x_6 =>
    (if (x_5.2 == x_6.2) = true then
      (wirelessref43_SameDB F x_5.1 x_6.1).bind fun x_14 =>
      some (x_14)
    else
      some (false)).bind fun z_8 =>
    (if z_8 = true then
      (wirelesslaw43_exampleHolds F).bind fun x_12 =>
      some (x_12)
    else
      some (false)).bind fun z_10 =>
    some z_10

def database_Range_j1 (F : Nat) (l_4 : (List T_api_Attribute)) : Option ((List T_api_Attribute)) :=
  some l_4

def database_Range_j2 (F : Nat) (x_6 : Int) (l_7 : (List T_api_Attribute)) : Option (Out ((List T_api_Attribute) × Int) ((List T_api_Attribute))) :=
  some (.next (l_7, w64 (x_6 + 1)))

def database_Range_l1 (F : Nat) (db_1 : (List T_api_Attribute)) (first_2 : Int) (last_3 : Int) (l_5 : (List T_api_Attribute)) (x_6 : Int) : Option (Out ((List T_api_Attribute) × Int) ((List T_api_Attribute))) :=
  if (decide (x_6 < (len db_1))) = true then
    (idx db_1 x_6).bind fun x_8 =>
    if ((decide (x_8.Handle ≥ first_2)) && (decide (x_8.Handle ≤ last_3))) = true then
      (database_copied F x_8).bind fun x_9 =>
      (app 56 l_5 [x_9]).bind fun l_10 =>
      database_Range_j2 F x_6 l_10
    else
      database_Range_j2 F x_6 l_5
  else
    some (.done (l_5))

def database_Range (F : Nat) (db_1 : (List T_api_Attribute)) (first_2 : Int) (last_3 : Int) : Option ((List T_api_Attribute)) :=
  (iter (fun s => database_Range_l1 F db_1 first_2 last_3 s.1 s.2) F ([], 0)).bind fun o =>
  database_Range_j1 F o

def wirelessref43_Range_j1 (F : Nat) (l_4 : (List T_api_Attribute)) : Option ((List T_api_Attribute)) :=
  some l_4

def wirelessref43_Range_j2 (F : Nat) (x_6 : Int) (l_7 : (List T_api_Attribute)) : Option (Out ((List T_api_Attribute) × Int) ((List T_api_Attribute))) :=
  some (.next (l_7, w64 (x_6 + 1)))

def wirelessref43_Range_l1 (F : Nat) (db_1 : (List T_api_Attribute)) (first_2 : Int) (last_3 : Int) (l_5 : (List T_api_Attribute)) (x_6 : Int) : Option (Out ((List T_api_Attribute) × Int) ((List T_api_Attribute))) :=
  if (decide (x_6 < (len db_1))) = true then
    (idx db_1 x_6).bind fun x_8 =>
    (if (decide (x_8.Handle ≥ first_2)) = true then
      (idx db_1 x_6).bind fun x_14 =>
      some (decide (x_14.Handle ≤ last_3))
    else
      some (false)).bind fun z_10 =>
    if z_10 = true then
      (idx db_1 x_6).bind fun x_11 =>
      (app 56 l_5 [x_11]).bind fun l_12 =>
      wirelessref43_Range_j2 F x_6 l_12
    else
      wirelessref43_Range_j2 F x_6 l_5
  else
    some (.done (l_5))

def wirelessref43_Range (F : Nat) (db_1 : (List T_api_Attribute)) (first_2 : Int) (last_3 : Int) : Option ((List T_api_Attribute)) :=
  (iter (fun s => wirelessref43_Range_l1 F db_1 first_2 last_3 s.1 s.2) F ([], 0)).bind fun o =>
  wirelessref43_Range_j1 F o

def wirelesslaw43_DatabaseFinds (F : Nat) (db_1 : (List T_api_Attribute)) (first_2 : Int) (last_3 : Int) : Option (Bool) :=
  (wirelesslaw43_fine F db_1).bind fun x_4 =>
  if (!x_4) = true then
    (wirelesslaw43_exampleHolds F).bind fun x_5 =>
    some x_5
  else
    (database_Group F db_1 first_2).bind fun x_6 =>
    (wirelessref43_Group F db_1 first_2).bind fun x_7 =>
    (database_Find F db_1 first_2).bind fun x_8 =>
    (wirelessref43_Find F db_1 first_2).bind fun x_9 =>
    (if (((x_8 == x_9) && (x_6.1 == x_7.1)) && (x_6.2 == x_7.2)) = true then
      (database_Range F db_1 first_2 last_3).bind fun x_17 =>
      (wirelessref43_Range F db_1 first_2 last_3).bind fun x_18 =>
      (wirelessref43_SameDB F x_17 x_18).bind fun x_19 =>
      some (x_19)
    else
      some (false)).bind fun z_11 =>
    (if z_11 = true then
      (wirelesslaw43_exampleHolds F).bind fun x_15 =>
      some (x_15)
    else
      some (false)).bind fun z_13 =>
    some z_13

def wirelesslaw43_DatabaseCovers_j1 (F : Nat) (db_1 : (List T_api_Attribute)) (x_4 : Int) : Option (Bool) :=
  (if (x_4 == (len db_1)) = true then
    (wirelesslaw43_exampleHolds F).bind fun x_8 =>
    some (x_8)
  else
    some (false)).bind fun z_6 =>
  some z_6

def wirelesslaw43_DatabaseCovers_j2 (F : Nat) (x_10 : Int) (x_11 : Int) : Option (Out (Int × Int) (Sum (Int) (Bool))) :=
  some (.next (x_11, w64 (x_10 + 1)))

def wirelesslaw43_DatabaseCovers_j3 (F : Nat) (x_9 : Int) (x_10 : Int) (x_15 : (List T_api_Attribute)) (z_16 : Bool) : Option (Out (Int × Int) (Sum (Int) (Bool))) :=
  if z_16 = true then
    some (.done (.inr false))
  else
    wirelesslaw43_DatabaseCovers_j2 F x_10 (w64 (x_9 + (len x_15)))

def wirelesslaw43_DatabaseCovers_l1 (F : Nat) (db_1 : (List T_api_Attribute)) (x_9 : Int) (x_10 : Int) : Option (Out (Int × Int) (Sum (Int) (Bool))) :=
  if (decide (x_10 < (len db_1))) = true then
    (idx db_1 x_10).bind fun x_12 =>
    (database_Group F db_1 x_12.Handle).bind fun x_13 =>
    if (!x_13.2) = true then
      wirelesslaw43_DatabaseCovers_j2 F x_10 x_9
    else
      (idx db_1 x_10).bind fun x_14 =>
      (database_Range F db_1 x_14.Handle x_13.1).bind fun x_15 =>
      if ((len x_15) == 0) = true then
        if (true || (decide ((w64 (x_9 + (len x_15))) > (len db_1)))) = true then
          wirelesslaw43_DatabaseCovers_j3 F x_9 x_10 x_15 true
        else
          (idx x_15 0).bind fun x_2981 =>
          (idx db_1 x_9).bind fun x_3381 =>
          wirelesslaw43_DatabaseCovers_j3 F x_9 x_10 x_15 (x_2981.Handle != x_3381.Handle)
      else
        (idx x_15 0).bind fun x_4261 =>
        (idx db_1 x_10).bind fun x_4661 =>
        if (x_4261.Handle != x_4661.Handle) = true then
          if (true || (decide ((w64 (x_9 + (len x_15))) > (len db_1)))) = true then
            wirelesslaw43_DatabaseCovers_j3 F x_9 x_10 x_15 true
          else
            (idx x_15 0).bind fun x_10663 =>
            (idx db_1 x_9).bind fun x_11063 =>
            wirelesslaw43_DatabaseCovers_j3 F x_9 x_10 x_15 (x_10663.Handle != x_11063.Handle)
        else
          (idx x_15 (w64 ((len x_15) - 1))).bind fun x_11543 =>
          if ((x_11543.Handle != x_13.1) || (decide ((w64 (x_9 + (len x_15))) > (len db_1)))) = true then
            wirelesslaw43_DatabaseCovers_j3 F x_9 x_10 x_15 true
          else
            (idx x_15 0).bind fun x_14505 =>
            (idx db_1 x_9).bind fun x_14905 =>
            wirelesslaw43_DatabaseCovers_j3 F x_9 x_10 x_15 (x_14505.Handle != x_14905.Handle)
  else
    some (.done (.inl (x_9)))

def wirelesslaw43_DatabaseCovers (F : Nat) (db_1 : (List T_api_Attribute)) : Option (Bool) :=
  (wirelesslaw43_fine F db_1).bind fun x_2 =>
  if (!x_2) = true then
    (wirelesslaw43_exampleHolds F).bind fun x_3 =>
    some x_3
  else
    (iter (fun s => wirelesslaw43_DatabaseCovers_l1 F db_1 s.1 s.2) F (0, 0)).bind fun o =>
    match o with
    | .inl u => wirelesslaw43_DatabaseCovers_j1 F db_1 u
    | .inr u => some u

def wirelesslaw43_DatabaseDescribes_j2 (F : Nat) (x_5 : (List T_api_Attribute) × Int) (x_10 : (List T_api_Found)) (x_11 : Int) : Option (Bool) :=
  (if (x_11 == (len x_10)) = true then
    (database_Check F x_5.1).bind fun x_19 =>
    some ((x_19 == 0))
  else
    some (false)).bind fun z_13 =>
  (if z_13 = true then
    (wirelesslaw43_exampleHolds F).bind fun x_17 =>
    some (x_17)
  else
    some (false)).bind fun z_15 =>
  some z_15

def wirelesslaw43_DatabaseDescribes_j3 (F : Nat) (x_21 : Int) (x_22 : Int) : Option (Out (Int × Int) (Sum (Int) (Bool))) :=
  some (.next (x_22, w64 (x_21 + 1)))

def wirelesslaw43_DatabaseDescribes_j5 (F : Nat) (x_25 : Int) (x_27 : Int) : Option (Out (Int × Int) (Sum (Int) (Bool))) :=
  some (.next (x_27, w64 (x_25 + 1)))

def wirelesslaw43_DatabaseDescribes_j8 (F : Nat) (x_32 : Int) (x_33 : Int) (z_34 : Bool) : Option (Out (Int × Int) (Sum (Int) (Bool))) :=
  if z_34 = true then
    some (.done (.inr false))
  else
    some (.next (w64 (x_32 + 1), w64 (x_33 + 1)))

def wirelesslaw43_DatabaseDescribes_l3 (F : Nat) (x_10 : (List T_api_Found)) (x_29 : T_api_Char) (x_32 : Int) (x_33 : Int) : Option (Out (Int × Int) (Sum (Int) (Bool))) :=
  if (decide (x_33 < (len x_29.More))) = true then
    if (decide (x_32 ≥ (len x_10))) = true then
      wirelesslaw43_DatabaseDescribes_j8 F x_32 x_33 true
    else
      (idx x_10 x_32).bind fun x_598 =>
      (idx x_29.More x_33).bind fun x_1078 =>
      if (!((x_598.f_Type.High == x_1078.f_Type.High) && (x_598.f_Type.Low == x_1078.f_Type.Low))) = true then
        wirelesslaw43_DatabaseDescribes_j8 F x_32 x_33 true
      else
        (idx x_10 x_32).bind fun x_2839 =>
        if (x_2839.Last != 0) = true then
          wirelesslaw43_DatabaseDescribes_j8 F x_32 x_33 true
        else
          (idx x_10 x_32).bind fun x_2841 =>
          wirelesslaw43_DatabaseDescribes_j8 F x_32 x_33 (x_2841.Value != 0)
  else
    some (.done (.inl (x_32)))

def wirelesslaw43_DatabaseDescribes_j7 (F : Nat) (x_10 : (List T_api_Found)) (x_25 : Int) (x_29 : T_api_Char) (x_31 : Int) : Option (Out (Int × Int) (Sum (Int) (Bool))) :=
  (iter (fun s => wirelesslaw43_DatabaseDescribes_l3 F x_10 x_29 s.1 s.2) F (x_31, 0)).bind fun o =>
  match o with
  | .inl u => wirelesslaw43_DatabaseDescribes_j5 F x_25 u
  | .inr u => some (.done (.inr u))

def wirelesslaw43_DatabaseDescribes_j6 (F : Nat) (x_10 : (List T_api_Found)) (x_24 : Int) (x_25 : Int) (x_29 : T_api_Char) (z_30 : Bool) : Option (Out (Int × Int) (Sum (Int) (Bool))) :=
  if z_30 = true then
    some (.done (.inr false))
  else
    if ((iand .i64 x_29.Props 48) != 0) = true then
      wirelesslaw43_DatabaseDescribes_j7 F x_10 x_25 x_29 (w64 ((w64 (x_24 + 1)) + 1))
    else
      wirelesslaw43_DatabaseDescribes_j7 F x_10 x_25 x_29 (w64 (x_24 + 1))

def wirelesslaw43_DatabaseDescribes_l2 (F : Nat) (l_1 : (List T_api_Service)) (x_10 : (List T_api_Found)) (x_21 : Int) (x_24 : Int) (x_25 : Int) : Option (Out (Int × Int) (Sum (Int) (Bool))) :=
  (idx l_1 x_21).bind fun x_26 =>
  if (decide (x_25 < (len x_26.Chars))) = true then
    (idx l_1 x_21).bind fun x_28 =>
    (idx x_28.Chars x_25).bind fun x_29 =>
    if (decide (x_24 ≥ (len x_10))) = true then
      wirelesslaw43_DatabaseDescribes_j6 F x_10 x_24 x_25 x_29 true
    else
      (idx x_10 x_24).bind fun x_2845 =>
      if (x_2845.Value == 0) = true then
        wirelesslaw43_DatabaseDescribes_j6 F x_10 x_24 x_25 x_29 true
      else
        (idx x_10 x_24).bind fun x_2847 =>
        if (x_2847.Props != x_29.Props) = true then
          wirelesslaw43_DatabaseDescribes_j6 F x_10 x_24 x_25 x_29 true
        else
          (idx x_10 x_24).bind fun x_2849 =>
          wirelesslaw43_DatabaseDescribes_j6 F x_10 x_24 x_25 x_29 (!((x_2849.f_Type.High == x_29.f_Type.High) && (x_2849.f_Type.Low == x_29.f_Type.Low)))
  else
    some (.done (.inl (x_24)))

def wirelesslaw43_DatabaseDescribes_j4 (F : Nat) (l_1 : (List T_api_Service)) (x_10 : (List T_api_Found)) (x_20 : Int) (x_21 : Int) (z_23 : Bool) : Option (Out (Int × Int) (Sum (Int) (Bool))) :=
  if z_23 = true then
    some (.done (.inr false))
  else
    (iter (fun s => wirelesslaw43_DatabaseDescribes_l2 F l_1 x_10 x_21 s.1 s.2) F (w64 (x_20 + 1), 0)).bind fun o =>
    match o with
    | .inl u => wirelesslaw43_DatabaseDescribes_j3 F x_21 u
    | .inr u => some (.done (.inr u))

def wirelesslaw43_DatabaseDescribes_l1 (F : Nat) (l_1 : (List T_api_Service)) (x_10 : (List T_api_Found)) (x_20 : Int) (x_21 : Int) : Option (Out (Int × Int) (Sum (Int) (Bool))) :=
  if (decide (x_21 < (len l_1))) = true then
    if (decide (x_20 ≥ (len x_10))) = true then
      wirelesslaw43_DatabaseDescribes_j4 F l_1 x_10 x_20 x_21 true
    else
      (idx x_10 x_20).bind fun x_2853 =>
      if (x_2853.Last == 0) = true then
        wirelesslaw43_DatabaseDescribes_j4 F l_1 x_10 x_20 x_21 true
      else
        (idx x_10 x_20).bind fun x_4055 =>
        (idx l_1 x_21).bind fun x_4455 =>
        wirelesslaw43_DatabaseDescribes_j4 F l_1 x_10 x_20 x_21 (!((x_4055.f_Type.High == x_4455.f_Type.High) && (x_4055.f_Type.Low == x_4455.f_Type.Low)))
  else
    some (.done (.inl (x_20)))

def wirelesslaw43_DatabaseDescribes_j1 (F : Nat) (l_1 : (List T_api_Service)) (x_5 : (List T_api_Attribute) × Int) : Option (Bool) :=
  (database_Found F x_5.1).bind fun x_10 =>
  (iter (fun s => wirelesslaw43_DatabaseDescribes_l1 F l_1 x_10 s.1 s.2) F (0, 0)).bind fun o =>
  match o with
  | .inl u => wirelesslaw43_DatabaseDescribes_j2 F x_5 x_10 u
  | .inr u => some u

def wirelesslaw43_DatabaseDescribes_l4 (F : Nat) (first_2 : Int) (x_5 : (List T_api_Attribute) × Int) (x_4935 : Int) : Option (Out (Int) (Sum (Unit) (Bool))) :=
  if (decide (x_4935 < (len x_5.1))) = true then
    (idx x_5.1 x_4935).bind fun x_4936 =>
    if ((w64 x_4936.Handle) != (w64 ((w64 first_2) + x_4935))) = true then
      some (.done (.inr false))
    else
      some (.next (w64 (x_4935 + 1)))
  else
    some (.done (.inl ()))

def wirelesslaw43_DatabaseDescribes (F : Nat) (l_1 : (List T_api_Service)) (first_2 : Int) : Option (Bool) :=
  (wirelesslaw43_small F l_1).bind fun x_3 =>
  if (!x_3) = true then
    (wirelesslaw43_exampleHolds F).bind fun x_4 =>
    some x_4
  else
    (database_Build F l_1 first_2).bind fun x_5 =>
    if (x_5.2 != 0) = true then
      (if ((len x_5.1) == 0) = true then
        (wirelesslaw43_exampleHolds F).bind fun x_9 =>
        some (x_9)
      else
        some (false)).bind fun z_7 =>
      some z_7
    else
      (iter (fun s => wirelesslaw43_DatabaseDescribes_l4 F first_2 x_5 s) F (0)).bind fun o =>
      match o with
      | .inl u => wirelesslaw43_DatabaseDescribes_j1 F l_1 x_5
      | .inr u => some u

end V
end Go.Proofs.Ytchlimkophmjlaa
