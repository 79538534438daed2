/- Pure twins of more Go functions, wn by program; the pla -/
import Derived.Test.YtoahakdkgefgiaaGreatFn
namespace Go.Proofs.YtoahakdkgefgiaaGreat
namespace V
def wirelessref43_IsService (F:Nat) (a_1:Tx1):Option (Bool):=
  (qe F a_1.fT 10240).bind fun x_2=>
  (if x_2=true then
    some (true)
  else
    (qe F a_1.fT 10241).bind fun x_6=>
    some (x_6)).bind fun z_4=>
  some z_4
def wirelessref23_Num_j1 (_:Nat) (x_4:Int):Option (Int):=
  some x_4
def wirelessref23_Num_l1 (_:Nat) (b_1:(List Int)) (at_2:Int) (x_5:Int) (x_6:Int):Option (Out (Int×Int) (Int)):=
  if (decide (x_6≥0))=true then
    (idx b_1 (w64 (at_2+x_6))).bind fun x_7=>
    some (.next (wu64 ((wu64 (x_5 * 256))+(wu64 x_7)),w64 (x_6 - 1)))
  else
    some (.done (x_5))
def wirelessref23_Num (F:Nat) (b_1:(List Int)) (at_2:Int) (size_3:Int):Option (Int):=
  (iter (fun s=>wirelessref23_Num_l1 F b_1 at_2 s.1 s.2) F (0,w64 (size_3 - 1))).bind fun o=>
  wirelessref23_Num_j1 F o
def wirelessref41_Decode (F:Nat) (b_1:(List Int)):Option (Tx0×Int):=
  if ((len b_1) == 2)=true then
    (wirelessref23_Num F b_1 0 2).bind fun x_2=>
    (qd F (wu16 x_2)).bind fun x_3=>
    some (x_3,0)
  else
    if (decide ((len b_1)<16))=true then
      some ((Tx0.mk 0 0),3)
    else
      if (decide ((len b_1) > 16))=true then
        some ((Tx0.mk 0 0),2)
      else
        (wirelessref23_Num F b_1 0 8).bind fun x_4=>
        (wirelessref23_Num F b_1 8 8).bind fun x_5=>
        (q19 F (Tx0.mk x_5 x_4)).bind fun x_6=>
        if x_6.2=true then
          some ((Tx0.mk 0 0),2)
        else
          some ((Tx0.mk x_5 x_4),0)
def wirelessref43_IsChar (F:Nat) (a_1:Tx1):Option (Bool):=
  (qe F a_1.fT 10243).bind fun x_2=>
  some x_2
def wirelessref43_CharParts_j1 (_:Nat) (x_3:Tx0×Int) (x_4:Int) (x_5:Int):Option (Int×Int×Tx0×Bool):=
  some (x_4,x_5,x_3.1,(x_3.2 == 0))
def wirelessref43_CharParts (F:Nat) (b_1:(List Int)):Option (Int×Int×Tx0×Bool):=
  if (decide ((len b_1)<3))=true then
    some (0,0,(Tx0.mk 0 0),false)
  else
    (sub b_1 3 (len b_1)).bind fun l_2=>
    (wirelessref41_Decode F l_2).bind fun x_3=>
    (idx b_1 0).bind fun x_6=>
    (wirelessref23_Num F b_1 1 2).bind fun x_9=>
    wirelessref43_CharParts_j1 F x_3 (w64 x_6) (wu16 x_9)
def wirelessref43_charWrong_j1 (_:Nat) (z_7:Bool):Option (Bool):=
  some z_7
def wirelessref43_charWrong (F:Nat) (db_1:(List Tx1)) (i_2:Int):Option (Bool):=
  (idx db_1 i_2).bind fun x_3=>
  (wirelessref43_CharParts F x_3.Value).bind fun x_4=>
  (if (!x_4.2.2.2)=true then
    some (true)
  else
    (q2d F x_4.2.2.1).bind fun x_13=>
    some (x_13)).bind fun z_6=>
  if (z_6||(decide ((w64 (i_2+1))≥(len db_1))))=true then
    some true
  else
    (idx db_1 (w64 (i_2+1))).bind fun x_8=>
    if (x_8.Handle != x_4.2.1)=true then
      wirelessref43_charWrong_j1 F true
    else
      wirelessref43_charWrong_j1 F (!((x_8.fT.High == x_4.2.2.1.High)&&(x_8.fT.Low == x_4.2.2.1.Low)))
def wirelessref43_charOf_j1 (_:Nat):Option (Int):=
  some (-1)
def wirelessref43_charOf_l1 (F:Nat) (db_1:(List Tx1)) (x_3:Int):Option (Out (Int) (Sum (Unit) (Int))):=
  if (decide (x_3≥0))=true then
    (idx db_1 x_3).bind fun x_4=>
    (wirelessref43_IsChar F x_4).bind fun x_5=>
    if x_5=true then
      some (.done (.inr x_3))
    else
      (idx db_1 x_3).bind fun x_6=>
      (wirelessref43_IsService F x_6).bind fun x_7=>
      if x_7=true then
        some (.done (.inr (-1)))
      else
        some (.next (w64 (x_3 - 1)))
  else
    some (.done (.inl ()))
def wirelessref43_charOf (F:Nat) (db_1:(List Tx1)) (i_2:Int):Option (Int):=
  (iter (fun s=>wirelessref43_charOf_l1 F db_1 s) F (i_2)).bind fun o=>
  match o with
  | .inl _=>wirelessref43_charOf_j1 F
  | .inr u=>some u
def wirelessref43_configWrong_j1 (_:Nat):Option (Bool):=
  some false
def wirelessref43_configWrong_l1 (F:Nat) (db_1:(List Tx1)) (i_2:Int) (x_5:Int):Option (Out (Int) (Sum (Unit) (Bool))):=
  if (decide (x_5<i_2))=true then
    (idx db_1 x_5).bind fun x_6=>
    (qe F x_6.fT 10498).bind fun x_7=>
    if x_7=true then
      some (.done (.inr true))
    else
      some (.next (w64 (x_5+1)))
  else
    some (.done (.inl ()))
def wirelessref43_configWrong (F:Nat) (db_1:(List Tx1)) (i_2:Int):Option (Bool):=
  (wirelessref43_charOf F db_1 i_2).bind fun x_3=>
  (idx db_1 i_2).bind fun x_4=>
  if (((len x_4.Value) != 2)||(decide (x_3<0)))=true then
    some true
  else
    (iter (fun s=>wirelessref43_configWrong_l1 F db_1 i_2 s) F (x_3)).bind fun o=>
    match o with
    | .inl _=>wirelessref43_configWrong_j1 F
    | .inr u=>some u
def wirelessref43_wrong (F:Nat) (db_1:(List Tx1)) (i_2:Int):Option (Bool):=
  (idx db_1 i_2).bind fun x_3=>
  (if (i_2 == 0)=true then
    (wirelessref43_IsService F x_3).bind fun x_25=>
    some ((!x_25))
  else
    some (false)).bind fun z_5=>
  (if z_5=true then
    some (true)
  else
    (q2c F x_3.fT).bind fun x_22=>
    if x_22=true then
      some (((iand .i64 x_3.Perms 2) != 0))
    else
      some (false)).bind fun z_7=>
  if z_7=true then
    some true
  else
    (wirelessref43_IsService F x_3).bind fun x_8=>
    if x_8=true then
      (wirelessref41_Decode F x_3.Value).bind fun x_9=>
      some (x_9.2 != 0)
    else
      (wirelessref43_IsChar F x_3).bind fun x_10=>
      (if x_10=true then
        (wirelessref43_charWrong F db_1 i_2).bind fun x_20=>
        some (x_20)
      else
        some (false)).bind fun z_12=>
      (if z_12=true then
        some (true)
      else
        (qe F x_3.fT 10498).bind fun x_16=>
        if x_16=true then
          (wirelessref43_configWrong F db_1 i_2).bind fun x_18=>
          some (x_18)
        else
          some (false)).bind fun z_14=>
      some z_14
def wirelessref43_Check_j1 (_:Nat):Option (Int):=
  some 0
def wirelessref43_Check_l1 (F:Nat) (db_1:(List Tx1)) (x_2:Int) (x_3:Int):Option (Out (Int×Int) (Sum (Unit) (Int))):=
  if (decide (x_3<(len db_1)))=true then
    (idx db_1 x_3).bind fun x_4=>
    if (decide (x_4.Handle≤x_2))=true then
      some (.done (.inr 13))
    else
      (idx db_1 x_3).bind fun x_5=>
      (if (decide (x_5.Perms<0))=true then
        some (true)
      else
        (idx db_1 x_3).bind fun x_12=>
        some (decide (x_12.Perms > 15))).bind fun z_7=>
      if z_7=true then
        some (.done (.inr 5))
      else
        (idx db_1 x_3).bind fun x_8=>
        if (decide ((len x_8.Value) > 512))=true then
          some (.done (.inr 4))
        else
          (wirelessref43_wrong F db_1 x_3).bind fun x_9=>
          if x_9=true then
            some (.done (.inr 1))
          else
            (idx db_1 x_3).bind fun x_10=>
            some (.next (x_10.Handle,w64 (x_3+1)))
  else
    some (.done (.inl ()))
def wirelessref43_Check (F:Nat) (db_1:(List Tx1)):Option (Int):=
  if (decide ((len db_1) > 1000))=true then
    some 4
  else
    (iter (fun s=>wirelessref43_Check_l1 F db_1 s.1 s.2) F (0,0)).bind fun o=>
    match o with
    | .inl _=>wirelessref43_Check_j1 F
    | .inr u=>some u
end V
end Go.Proofs.YtoahakdkgefgiaaGreat
