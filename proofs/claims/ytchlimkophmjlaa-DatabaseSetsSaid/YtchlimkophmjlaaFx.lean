/-
  Pure twins of more Go functions, written by program; the plain law names them.
-/
import Derived.Test.YtchlimkophmjlaaFn
namespace Go.Proofs.Ytchlimkophmjlaa
namespace V
def wirelessref23_Put_j1 (F : Nat) (l_3 : (List Int)) : Option ((List Int)) :=
  some l_3

def wirelessref23_Put_l1 (F : Nat) (size_2 : Int) (x_4 : Int) (l_5 : (List Int)) (x_6 : Int) : Option (Out (Int × (List Int) × Int) ((List Int))) :=
  if (decide (x_6 < size_2)) = true then
    (app 1 l_5 [wu8 (remp x_4 256)]).bind fun l_7 =>
    some (.next ((quop .u64 x_4 256), l_7, w64 (x_6 + 1)))
  else
    some (.done (l_5))

def wirelessref23_Put (F : Nat) (n_1 : Int) (size_2 : Int) : Option ((List Int)) :=
  (iter (fun s => wirelessref23_Put_l1 F size_2 s.1 s.2.1 s.2.2) F (n_1, [], 0)).bind fun o =>
  wirelessref23_Put_j1 F o

def wirelessref43_Group_j1 (F : Nat) (x_6 : Int) : Option (Int × Bool) :=
  some (x_6, true)

def wirelessref43_Group_l1 (F : Nat) (db_1 : (List T_api_Attribute)) (x_7 : Int) (x_8 : Int) : Option (Out (Int × Int) (Int)) :=
  (if (decide (x_8 < (len db_1))) = true then
    (idx db_1 x_8).bind fun x_13 =>
    (wirelessref43_IsService F x_13).bind fun x_14 =>
    some ((!x_14))
  else
    some (false)).bind fun z_10 =>
  if z_10 = true then
    (idx db_1 x_8).bind fun x_11 =>
    some (.next (x_11.Handle, w64 (x_8 + 1)))
  else
    some (.done (x_7))

def wirelessref43_Group (F : Nat) (db_1 : (List T_api_Attribute)) (handle_2 : Int) : Option (Int × Bool) :=
  (wirelessref43_Find F db_1 handle_2).bind fun x_3 =>
  (if (decide (x_3 < 0)) = true then
    some (true)
  else
    (idx db_1 x_3).bind fun x_16 =>
    (wirelessref43_IsService F x_16).bind fun x_17 =>
    some ((!x_17))).bind fun z_5 =>
  if z_5 = true then
    some (0, false)
  else
    (iter (fun s => wirelessref43_Group_l1 F db_1 s.1 s.2) F (handle_2, w64 (x_3 + 1))).bind fun o =>
    wirelessref43_Group_j1 F o

def database_Range_j1 (F : Nat) (l_4 : (List T_api_Attribute)) : Option ((List T_api_Attribute)) :=
  some l_4

def database_Range_j2 (F : Nat) (x_6 : Int) (l_7 : (List T_api_Attribute)) : Option (Out ((List T_api_Attribute) × Int) ((List T_api_Attribute))) :=
  some (.next (l_7, w64 (x_6 + 1)))

def database_Range_l1 (F : Nat) (db_1 : (List T_api_Attribute)) (first_2 : Int) (last_3 : Int) (l_5 : (List T_api_Attribute)) (x_6 : Int) : Option (Out ((List T_api_Attribute) × Int) ((List T_api_Attribute))) :=
  if (decide (x_6 < (len db_1))) = true then
    (idx db_1 x_6).bind fun x_8 =>
    if ((decide (x_8.Handle ≥ first_2)) && (decide (x_8.Handle ≤ last_3))) = true then
      (database_copied F x_8).bind fun x_9 =>
      (app 56 l_5 [x_9]).bind fun l_10 =>
      database_Range_j2 F x_6 l_10
    else
      database_Range_j2 F x_6 l_5
  else
    some (.done (l_5))

def database_Range (F : Nat) (db_1 : (List T_api_Attribute)) (first_2 : Int) (last_3 : Int) : Option ((List T_api_Attribute)) :=
  (iter (fun s => database_Range_l1 F db_1 first_2 last_3 s.1 s.2) F ([], 0)).bind fun o =>
  database_Range_j1 F o

def wirelessref43_Range_j1 (F : Nat) (l_4 : (List T_api_Attribute)) : Option ((List T_api_Attribute)) :=
  some l_4

def wirelessref43_Range_j2 (F : Nat) (x_6 : Int) (l_7 : (List T_api_Attribute)) : Option (Out ((List T_api_Attribute) × Int) ((List T_api_Attribute))) :=
  some (.next (l_7, w64 (x_6 + 1)))

def wirelessref43_Range_l1 (F : Nat) (db_1 : (List T_api_Attribute)) (first_2 : Int) (last_3 : Int) (l_5 : (List T_api_Attribute)) (x_6 : Int) : Option (Out ((List T_api_Attribute) × Int) ((List T_api_Attribute))) :=
  if (decide (x_6 < (len db_1))) = true then
    (idx db_1 x_6).bind fun x_8 =>
    (if (decide (x_8.Handle ≥ first_2)) = true then
      (idx db_1 x_6).bind fun x_14 =>
      some (decide (x_14.Handle ≤ last_3))
    else
      some (false)).bind fun z_10 =>
    if z_10 = true then
      (idx db_1 x_6).bind fun x_11 =>
      (app 56 l_5 [x_11]).bind fun l_12 =>
      wirelessref43_Range_j2 F x_6 l_12
    else
      wirelessref43_Range_j2 F x_6 l_5
  else
    some (.done (l_5))

def wirelessref43_Range (F : Nat) (db_1 : (List T_api_Attribute)) (first_2 : Int) (last_3 : Int) : Option ((List T_api_Attribute)) :=
  (iter (fun s => wirelessref43_Range_l1 F db_1 first_2 last_3 s.1 s.2) F ([], 0)).bind fun o =>
  wirelessref43_Range_j1 F o

def wirelessref43_Found_j1 (F : Nat) (l_2 : (List T_api_Found)) : Option ((List T_api_Found)) :=
  some l_2

def wirelessref43_Found_j2 (F : Nat) (x_4 : Int) (l_5 : (List T_api_Found)) : Option (Out ((List T_api_Found) × Int) ((List T_api_Found))) :=
  some (.next (l_5, w64 (x_4 + 1)))

def wirelessref43_Found_l1 (F : Nat) (db_1 : (List T_api_Attribute)) (l_3 : (List T_api_Found)) (x_4 : Int) : Option (Out ((List T_api_Found) × Int) ((List T_api_Found))) :=
  if (decide (x_4 < (len db_1))) = true then
    (idx db_1 x_4).bind fun x_6 =>
    (if (decide (x_4 > 0)) = true then
      (idx db_1 (w64 (x_4 - 1))).bind fun x_18 =>
      (wirelessref43_IsChar F x_18).bind fun x_19 =>
      some (x_19)
    else
      some (false)).bind fun z_8 =>
    if z_8 = true then
      wirelessref43_Found_j2 F x_4 l_3
    else
      (wirelessref43_IsService F x_6).bind fun x_9 =>
      if x_9 = true then
        (wirelessref41_Decode F x_6.Value).bind fun x_10 =>
        (wirelessref43_Group F db_1 x_6.Handle).bind fun x_11 =>
        (app 32 l_3 [(T_api_Found.mk x_6.Handle x_11.1 0 0 x_10.1)]).bind fun l_12 =>
        wirelessref43_Found_j2 F x_4 l_12
      else
        (wirelessref43_IsChar F x_6).bind fun x_13 =>
        if x_13 = true then
          (wirelessref43_CharParts F x_6.Value).bind fun x_14 =>
          (app 32 l_3 [(T_api_Found.mk x_6.Handle 0 x_14.2.1 x_14.1 x_14.2.2.1)]).bind fun l_15 =>
          wirelessref43_Found_j2 F x_4 l_15
        else
          (app 32 l_3 [(T_api_Found.mk x_6.Handle 0 0 0 x_6.f_Type)]).bind fun l_16 =>
          wirelessref43_Found_j2 F x_4 l_16
  else
    some (.done (l_3))

def wirelessref43_Found (F : Nat) (db_1 : (List T_api_Attribute)) : Option ((List T_api_Found)) :=
  (iter (fun s => wirelessref43_Found_l1 F db_1 s.1 s.2) F ([], 0)).bind fun o =>
  wirelessref43_Found_j1 F o

def wirelessref05_Low_j1 (F : Nat) (x_3 : Int) : Option (Int) :=
  some (wu32 (remp x_3 4294967296))

def wirelessref05_Low (F : Nat) (k_1 : Int) (i_2 : Int) : Option (Int) :=
  if (decide ((remp (w64 ((w64 ((remp i_2 64) + 64)) * 11)) 64) > 0)) = true then
    (ishl .u64 k_1 (remp (w64 ((w64 ((remp i_2 64) + 64)) * 11)) 64)).bind fun x_6 =>
    (ishr .u64 k_1 (w64 (64 - (remp (w64 ((w64 ((remp i_2 64) + 64)) * 11)) 64)))).bind fun x_7 =>
    wirelessref05_Low_j1 F (ior .u64 x_6 x_7)
  else
    wirelessref05_Low_j1 F k_1

def wirelessref05_Turn_j1 (F : Nat) (x_3 : Int) : Option (Int) :=
  some x_3

def wirelessref05_Turn (F : Nat) (x_1 : Int) (n_2 : Int) : Option (Int) :=
  (ishl .u32 x_1 n_2).bind fun x_6 =>
  (ishr .u32 x_1 (w64 (32 - n_2))).bind fun x_7 =>
  wirelessref05_Turn_j1 F (ior .u32 x_6 x_7)

def wirelessref05_Round (F : Nat) (k_1 : Int) (i_2 : Int) (half_3 : Int) : Option (Int) :=
  (wirelessref05_Low F k_1 i_2).bind fun x_4 =>
  (wirelessref05_Turn F (wu32 (half_3 + x_4)) 7).bind fun x_5 =>
  (wirelessref05_Turn F x_4 16).bind fun x_6 =>
  some (ixor .u32 (wu32 (x_5 * 2654435761)) x_6)

def wirelessref05_Mix_j1 (F : Nat) (x_3 : Int) (x_4 : Int) : Option (Int) :=
  some (wu64 ((wu64 ((wu64 x_3) * 4294967296)) + (wu64 x_4)))

def wirelessref05_Mix_l1 (F : Nat) (k_1 : Int) (x_5 : Int) (x_6 : Int) (x_7 : Int) : Option (Out (Int × Int × Int) (Int × Int)) :=
  if (decide (x_7 < 8)) = true then
    (wirelessref05_Round F k_1 x_7 x_6).bind fun x_8 =>
    some (.next (x_6, ixor .u32 x_5 x_8, w64 (x_7 + 1)))
  else
    some (.done (x_5, x_6))

def wirelessref05_Mix (F : Nat) (k_1 : Int) (x_2 : Int) : Option (Int) :=
  (iter (fun s => wirelessref05_Mix_l1 F k_1 s.1 s.2.1 s.2.2) F (wu32 (quop .u64 x_2 4294967296), wu32 (remp x_2 4294967296), 0)).bind fun o =>
  wirelessref05_Mix_j1 F o.1 o.2

def wirelessref02_Value_j1 (F : Nat) (x_2 : Int) : Option (Int) :=
  some x_2

def wirelessref02_Value_l1 (F : Nat) (b_1 : (List Int)) (x_3 : Int) (x_4 : Int) : Option (Out (Int × Int) (Int)) :=
  if (decide (x_4 ≥ 0)) = true then
    (idx b_1 x_4).bind fun x_5 =>
    some (.next (wu64 ((wu64 (x_3 * 256)) + (wu64 x_5)), w64 (x_4 - 1)))
  else
    some (.done (x_3))

def wirelessref02_Value (F : Nat) (b_1 : (List Int)) : Option (Int) :=
  (iter (fun s => wirelessref02_Value_l1 F b_1 s.1 s.2) F (0, w64 ((len b_1) - 1))).bind fun o =>
  wirelessref02_Value_j1 F o

def wirelessref06_Tag_j1 (F : Nat) (x_4 : Int) : Option (Int) :=
  some x_4

def wirelessref06_Tag_l1 (F : Nat) (k_1 : Int) (b_2 : (List Int)) (x_5 : Int) (x_6 : Int) : Option (Out (Int × Int) (Int)) :=
  if (decide (x_6 < (len b_2))) = true then
    (sub b_2 x_6 (imin (w64 (x_6 + 8)) (len b_2))).bind fun l_7 =>
    (wirelessref02_Value F l_7).bind fun x_8 =>
    (wirelessref05_Mix F k_1 (ixor .u64 x_5 x_8)).bind fun x_9 =>
    some (.next (x_9, w64 (x_6 + 8)))
  else
    some (.done (x_5))

def wirelessref06_Tag (F : Nat) (k_1 : Int) (b_2 : (List Int)) : Option (Int) :=
  (wirelessref05_Mix F k_1 (wu64 (len b_2))).bind fun x_3 =>
  (iter (fun s => wirelessref06_Tag_l1 F k_1 b_2 s.1 s.2) F (x_3, 0)).bind fun o =>
  wirelessref06_Tag_j1 F o

def wirelessref02_Num_j1 (F : Nat) (l_3 : (List Int)) : Option ((List Int)) :=
  some l_3

def wirelessref02_Num_l1 (F : Nat) (size_1 : Int) (x_4 : Int) (l_5 : (List Int)) (x_6 : Int) : Option (Out (Int × (List Int) × Int) ((List Int))) :=
  if (decide (x_6 < size_1)) = true then
    (app 1 l_5 [wu8 (remp x_4 256)]).bind fun l_7 =>
    some (.next ((quop .u64 x_4 256), l_7, w64 (x_6 + 1)))
  else
    some (.done (l_5))

def wirelessref02_Num (F : Nat) (size_1 : Int) (v_2 : Int) : Option ((List Int)) :=
  (iter (fun s => wirelessref02_Num_l1 F size_1 s.1 s.2.1 s.2.2) F (v_2, ([] : (List Int)), 0)).bind fun o =>
  wirelessref02_Num_j1 F o

def wirelessref06_Derive_j1 (F : Nat) (k_1 : Int) (l_6 : (List Int)) : Option (Int) :=
  (wirelessref06_Tag F k_1 l_6).bind fun x_7 =>
  some x_7

def wirelessref06_Derive_l1 (F : Nat) (parts_3 : (List Int)) (l_8 : (List Int)) (x_9 : Int) : Option (Out ((List Int) × Int) ((List Int))) :=
  if (decide (x_9 < (len parts_3))) = true then
    (idx parts_3 x_9).bind fun x_10 =>
    (wirelessref02_Num F 8 x_10).bind fun x_11 =>
    (app 1 l_8 x_11).bind fun l_12 =>
    some (.next (l_12, w64 (x_9 + 1)))
  else
    some (.done (l_8))

def wirelessref06_Derive (F : Nat) (k_1 : Int) (label_2 : List Int) (parts_3 : (List Int)) : Option (Int) :=
  (app 1 ([] : List Int) label_2).bind fun l_4 =>
  (app 1 l_4 [0]).bind fun l_5 =>
  (iter (fun s => wirelessref06_Derive_l1 F parts_3 s.1 s.2) F (l_5, 0)).bind fun o =>
  wirelessref06_Derive_j1 F k_1 o

def wirelessref43_Hash_j1 (F : Nat) (l_2 : (List Int)) : Option (Int) :=
  (wirelessref06_Tag F 0 l_2).bind fun x_3 =>
  (wirelessref06_Derive F 0 [104, 97, 115, 104] [x_3]).bind fun x_4 =>
  some (imax 1 x_4)

def wirelessref43_Hash_j2 (F : Nat) (x_6 : Int) (l_7 : (List Int)) : Option (Out ((List Int) × Int) ((List Int))) :=
  some (.next (l_7, w64 (x_6 + 1)))

def wirelessref43_Hash_l1 (F : Nat) (db_1 : (List T_api_Attribute)) (l_5 : (List Int)) (x_6 : Int) : Option (Out ((List Int) × Int) ((List Int))) :=
  if (decide (x_6 < (len db_1))) = true then
    (idx db_1 x_6).bind fun x_8 =>
    (wirelessref23_Put F (wu64 x_8.Handle) 2).bind fun x_9 =>
    (app 1 l_5 x_9).bind fun l_10 =>
    (idx db_1 x_6).bind fun x_11 =>
    (wirelessref23_Put F x_11.f_Type.Low 8).bind fun x_12 =>
    (app 1 l_10 x_12).bind fun l_13 =>
    (idx db_1 x_6).bind fun x_14 =>
    (wirelessref23_Put F x_14.f_Type.High 8).bind fun x_15 =>
    (app 1 l_13 x_15).bind fun l_16 =>
    (idx db_1 x_6).bind fun x_17 =>
    (wirelessref43_declares F x_17.f_Type).bind fun x_18 =>
    if x_18 = true then
      (idx db_1 x_6).bind fun x_19 =>
      (wirelessref23_Put F (wu64 (len x_19.Value)) 2).bind fun x_20 =>
      (app 1 l_16 x_20).bind fun l_21 =>
      (idx db_1 x_6).bind fun x_22 =>
      (app 1 l_21 x_22.Value).bind fun l_23 =>
      wirelessref43_Hash_j2 F x_6 l_23
    else
      wirelessref43_Hash_j2 F x_6 l_16
  else
    some (.done (l_5))

def wirelessref43_Hash (F : Nat) (db_1 : (List T_api_Attribute)) : Option (Int) :=
  (iter (fun s => wirelessref43_Hash_l1 F db_1 s.1 s.2) F ([], 0)).bind fun o =>
  wirelessref43_Hash_j1 F o

end V
end Go.Proofs.Ytchlimkophmjlaa
