/- Pure twins of the Go functions, wn by program. -/
import Derived.Test.YtoahakdkgefgiaaGreatPure
namespace Go.Proofs.YtoahakdkgefgiaaGreat
namespace V
structure Tx0 where
  High:Int
  Low:Int
structure Tx1 where
  Handle:Int
  fT:Tx0
  Perms:Int
  Value:(List Int)
structure Tx2 where
  fT:Tx0
  Props:Int
  Perms:Int
  Value:(List Int)
  More:(List Tx1)
structure Tx3 where
  fT:Tx0
  Primary:Bool
  Chars:(List Tx2)
structure Tx4 where
  Handle:Int
  Bits:Int
structure Tx5 where
  Handle:Int
  Offset:Int
  Value:(List Int)
structure Tx6 where
  Handle:Int
  Last:Int
  fT:Tx0
  Value:(List Int)
structure Tx7 where
  Kind:Int
  Asked:Int
  Handle:Int
  Last:Int
  fT:Tx0
  Offset:Int
  MTU:Int
  Code:Int
  Commit:Bool
  Value:(List Int)
  List:(List Tx6)
structure Tx8 where
  DB:(List Tx1)
  MTU:Int
  Max:Int
  Level:Int
  Queue:(List Tx5)
  Aware:Int
  Robust:Bool
  Subs:(List Tx4)
  Out:(List Tx7)
  Wait:Bool
  Since:Int
structure Tx9 where
  char:Bool
  config:Bool
structure Txa where
  Sv:Tx8
  wn:(List Int)
structure Txb where
  Size:Int
  Value:Int
def q57 (_:Nat) (db_1:(List Tx1)) (x_2:Int):Option (Bool):=
  some ((decide ((len db_1)≤80))&&(decide (x_2≤4096)))
def q1u (_:Nat) (db_1:(List Tx1)) (x_3:Int) (x_4:Int):Option (Out (Int×Int) (Sum (Int) (Bool))):=
  if ((decide (x_4<(len db_1)))&&(decide (x_4<80)))=true then
    (idx db_1 x_4).bind fun x_5=>
    if (decide ((len x_5.Value) > 4096))=true then
      some (.done (.inr false))
    else
      (idx db_1 x_4).bind fun x_6=>
      some (.next (w64 (x_3+(len x_6.Value)),w64 (x_4+1)))
  else
    some (.done (.inl (x_3)))
def q26 (F:Nat) (db_1:(List Tx1)):Option (Bool):=
  (iter (fun s=>q1u F db_1 s.1 s.2) F (0,0)).bind fun o=>
  match o with
  | .inl u=>q57 F db_1 u
  | .inr u=>some u
def qb (_:Nat) (n_1:Int):Option (Tx0):=
  some (Tx0.mk (wu64 ((wu64 ((wu64 n_1) * 4294967296))+4096)) 9223372588214596859)
def q58 (_:Nat) (z_3:Bool):Option (Bool):=
  some z_3
def qc (F:Nat) (t_1:Tx0) (n_2:Int):Option (Bool):=
  (qb F n_2).bind fun x_6=>
  q58 F ((t_1.High == x_6.High)&&(t_1.Low == x_6.Low))
def qs (F:Nat) (a_1:Tx1):Option (Bool):=
  (qc F a_1.fT 10240).bind fun x_2=>
  (if x_2=true then
    some (true)
  else
    (qc F a_1.fT 10241).bind fun x_6=>
    some (x_6)).bind fun z_4=>
  some z_4
def q15 (F:Nat) (t_1:Tx0):Option (Bool):=
  (qc F t_1 10240).bind fun x_2=>
  (if x_2=true then
    some (true)
  else
    (qc F t_1 10241).bind fun x_14=>
    some (x_14)).bind fun z_4=>
  (if z_4=true then
    some (true)
  else
    (qc F t_1 10242).bind fun x_12=>
    some (x_12)).bind fun z_6=>
  (if z_6=true then
    some (true)
  else
    (qc F t_1 10243).bind fun x_10=>
    some (x_10)).bind fun z_8=>
  some z_8
def q59 (_:Nat) (x_4:Int):Option (Int):=
  some x_4
def q1v (_:Nat) (b_1:(List Int)) (at_2:Int) (x_5:Int) (x_6:Int):Option (Out (Int×Int) (Int)):=
  if (decide (x_6≥0))=true then
    (idx b_1 (w64 (at_2+x_6))).bind fun x_7=>
    some (.next (wu64 ((wu64 (x_5 * 256))+(wu64 x_7)),w64 (x_6 - 1)))
  else
    some (.done (x_5))
def qh (F:Nat) (b_1:(List Int)) (at_2:Int) (size_3:Int):Option (Int):=
  (iter (fun s=>q1v F b_1 at_2 s.1 s.2) F (0,w64 (size_3 - 1))).bind fun o=>
  q59 F o
def q33 (_:Nat) (u_1:Tx0) (z_2:Bool):Option (Int×Bool):=
  if z_2=true then
    some (0,false)
  else
    some (wu16 (quop .u64 u_1.High 4294967296),true)
def q16 (F:Nat) (u_1:Tx0):Option (Int×Bool):=
  if (decide ((quop .u64 u_1.High 4294967296) > 65535))=true then
    q33 F u_1 true
  else
    (qb F (wu16 (quop .u64 u_1.High 4294967296))).bind fun x_6=>
    q33 F u_1 (!((x_6.High == u_1.High)&&(x_6.Low == u_1.Low)))
def q17 (F:Nat) (b_1:(List Int)):Option (Tx0×Int):=
  if ((len b_1) == 2)=true then
    (qh F b_1 0 2).bind fun x_2=>
    (qb F (wu16 x_2)).bind fun x_3=>
    some (x_3,0)
  else
    if (decide ((len b_1)<16))=true then
      some ((Tx0.mk 0 0),3)
    else
      if (decide ((len b_1) > 16))=true then
        some ((Tx0.mk 0 0),2)
      else
        (qh F b_1 0 8).bind fun x_4=>
        (qh F b_1 8 8).bind fun x_5=>
        (q16 F (Tx0.mk x_5 x_4)).bind fun x_6=>
        if x_6.2=true then
          some ((Tx0.mk 0 0),2)
        else
          some ((Tx0.mk x_5 x_4),0)
def q18 (F:Nat) (a_1:Tx1):Option (Bool):=
  (qc F a_1.fT 10243).bind fun x_2=>
  some x_2
def q3r (_:Nat) (x_3:Tx0×Int) (x_4:Int) (x_5:Int):Option (Int×Int×Tx0×Bool):=
  some (x_4,x_5,x_3.1,(x_3.2 == 0))
def q27 (F:Nat) (b_1:(List Int)):Option (Int×Int×Tx0×Bool):=
  if (decide ((len b_1)<3))=true then
    some (0,0,(Tx0.mk 0 0),false)
  else
    (sub b_1 3 (len b_1)).bind fun l_2=>
    (q17 F l_2).bind fun x_3=>
    (idx b_1 0).bind fun x_6=>
    (qh F b_1 1 2).bind fun x_9=>
    q3r F x_3 (w64 x_6) (wu16 x_9)
def q19 (F:Nat) (t_1:Tx0):Option (Bool):=
  (q15 F t_1).bind fun x_2=>
  (if x_2=true then
    some (true)
  else
    (qc F t_1 10498).bind fun x_6=>
    some (x_6)).bind fun z_4=>
  some z_4
def q3s (_:Nat) (z_7:Bool):Option (Bool):=
  some z_7
def q28 (F:Nat) (db_1:(List Tx1)) (i_2:Int):Option (Bool):=
  (idx db_1 i_2).bind fun x_3=>
  (q27 F x_3.Value).bind fun x_4=>
  (if (!x_4.2.2.2)=true then
    some (true)
  else
    (q19 F x_4.2.2.1).bind fun x_13=>
    some (x_13)).bind fun z_6=>
  if (z_6||(decide ((w64 (i_2+1))≥(len db_1))))=true then
    some true
  else
    (idx db_1 (w64 (i_2+1))).bind fun x_8=>
    if (x_8.Handle != x_4.2.1)=true then
      q3s F true
    else
      q3s F (!((x_8.fT.High == x_4.2.2.1.High)&&(x_8.fT.Low == x_4.2.2.1.Low)))
def q5a (_:Nat):Option (Int):=
  some (-1)
def q1w (F:Nat) (db_1:(List Tx1)) (x_3:Int):Option (Out (Int) (Sum (Unit) (Int))):=
  if (decide (x_3≥0))=true then
    (idx db_1 x_3).bind fun x_4=>
    (q18 F x_4).bind fun x_5=>
    if x_5=true then
      some (.done (.inr x_3))
    else
      (idx db_1 x_3).bind fun x_6=>
      (qs F x_6).bind fun x_7=>
      if x_7=true then
        some (.done (.inr (-1)))
      else
        some (.next (w64 (x_3 - 1)))
  else
    some (.done (.inl ()))
def q29 (F:Nat) (db_1:(List Tx1)) (i_2:Int):Option (Int):=
  (iter (fun s=>q1w F db_1 s) F (i_2)).bind fun o=>
  match o with
  | .inl _=>q5a F
  | .inr u=>some u
def q5b (_:Nat):Option (Bool):=
  some false
def q1a (F:Nat) (db_1:(List Tx1)) (i_2:Int) (x_5:Int):Option (Out (Int) (Sum (Unit) (Bool))):=
  if (decide (x_5<i_2))=true then
    (idx db_1 x_5).bind fun x_6=>
    (qc F x_6.fT 10498).bind fun x_7=>
    if x_7=true then
      some (.done (.inr true))
    else
      some (.next (w64 (x_5+1)))
  else
    some (.done (.inl ()))
def q2a (F:Nat) (db_1:(List Tx1)) (i_2:Int):Option (Bool):=
  (q29 F db_1 i_2).bind fun x_3=>
  (idx db_1 i_2).bind fun x_4=>
  if (((len x_4.Value) != 2)||(decide (x_3<0)))=true then
    some true
  else
    (iter (fun s=>q1a F db_1 i_2 s) F (x_3)).bind fun o=>
    match o with
    | .inl _=>q5b F
    | .inr u=>some u
def q2b (F:Nat) (db_1:(List Tx1)) (i_2:Int):Option (Bool):=
  (idx db_1 i_2).bind fun x_3=>
  (if (i_2 == 0)=true then
    (qs F x_3).bind fun x_25=>
    some ((!x_25))
  else
    some (false)).bind fun z_5=>
  (if z_5=true then
    some (true)
  else
    (q15 F x_3.fT).bind fun x_22=>
    if x_22=true then
      some (((iand .i64 x_3.Perms 2) != 0))
    else
      some (false)).bind fun z_7=>
  if z_7=true then
    some true
  else
    (qs F x_3).bind fun x_8=>
    if x_8=true then
      (q17 F x_3.Value).bind fun x_9=>
      some (x_9.2 != 0)
    else
      (q18 F x_3).bind fun x_10=>
      (if x_10=true then
        (q28 F db_1 i_2).bind fun x_20=>
        some (x_20)
      else
        some (false)).bind fun z_12=>
      (if z_12=true then
        some (true)
      else
        (qc F x_3.fT 10498).bind fun x_16=>
        if x_16=true then
          (q2a F db_1 i_2).bind fun x_18=>
          some (x_18)
        else
          some (false)).bind fun z_14=>
      some z_14
def q5c (_:Nat):Option (Int):=
  some 0
def qd (F:Nat) (db_1:(List Tx1)) (x_2:Int) (x_3:Int):Option (Out (Int×Int) (Sum (Unit) (Int))):=
  if (decide (x_3<(len db_1)))=true then
    (idx db_1 x_3).bind fun x_4=>
    if (decide (x_4.Handle≤x_2))=true then
      some (.done (.inr 13))
    else
      (idx db_1 x_3).bind fun x_5=>
      (if (decide (x_5.Perms<0))=true then
        some (true)
      else
        (idx db_1 x_3).bind fun x_12=>
        some (decide (x_12.Perms > 15))).bind fun z_7=>
      if z_7=true then
        some (.done (.inr 5))
      else
        (idx db_1 x_3).bind fun x_8=>
        if (decide ((len x_8.Value) > 512))=true then
          some (.done (.inr 4))
        else
          (q2b F db_1 x_3).bind fun x_9=>
          if x_9=true then
            some (.done (.inr 1))
          else
            (idx db_1 x_3).bind fun x_10=>
            some (.next (x_10.Handle,w64 (x_3+1)))
  else
    some (.done (.inl ()))
def qn (F:Nat) (db_1:(List Tx1)):Option (Int):=
  if (decide ((len db_1) > 1000))=true then
    some 4
  else
    (iter (fun s=>qd F db_1 s.1 s.2) F (0,0)).bind fun o=>
    match o with
    | .inl _=>q5c F
    | .inr u=>some u
def q2c (F:Nat) (t_1:Tx0) (props_2:Int) (perms_3:Int) (value_4:(List Int)):Option (Int):=
  (q19 F t_1).bind fun x_5=>
  if x_5=true then
    some 1
  else
    if ((((decide (props_2<0))||(decide (props_2 > 255)))||(decide (perms_3<0)))||(decide (perms_3 > 15)))=true then
      some 5
    else
      if (decide ((len value_4) > 512))=true then
        some 4
      else
        some 0
def q5d (_:Nat) (x_2:Int):Option (Int×Int):=
  some (x_2,0)
def q5e (_:Nat) (x_4:Int) (x_5:Int):Option (Out (Int×Int) (Sum (Int) (Int×Int))):=
  some (.next (x_5,w64 (x_4+1)))
def q5f (_:Nat) (x_7:Int) (x_9:Int):Option (Out (Int×Int) (Sum (Int) (Int×Int))):=
  some (.next (x_9,w64 (x_7+1)))
def q5g (_:Nat) (x_14:Int) (x_15:Int):Option (Out (Int) (Sum (Int) (Int×Int))):=
  if (x_15 != 0)=true then
    some (.done (.inr (0,x_15)))
  else
    some (.next (w64 (x_14+1)))
def q3t (F:Nat) (x_11:Tx2) (x_13:Int) (x_14:Int):Option (Out (Int) (Sum (Int) (Int×Int))):=
  if (decide (x_14<(len x_11.More)))=true then
    (idx x_11.More x_14).bind fun x_16=>
    (idx x_11.More x_14).bind fun x_17=>
    (idx x_11.More x_14).bind fun x_18=>
    (q2c F x_16.fT 0 x_17.Perms x_18.Value).bind fun x_21=>
    q5g F x_14 x_21
  else
    some (.done (.inl (x_13)))
def q3u (F:Nat) (x_7:Int) (x_11:Tx2) (x_13:Int):Option (Out (Int×Int) (Sum (Int) (Int×Int))):=
  (iter (fun s=>q3t F x_11 x_13 s) F (0)).bind fun o=>
  match o with
  | .inl u=>q5f F x_7 u
  | .inr u=>some (.done (.inr u))
def q3v (F:Nat) (l_1:(List Tx3)) (x_4:Int) (x_6:Int) (x_7:Int):Option (Out (Int×Int) (Sum (Int) (Int×Int))):=
  (idx l_1 x_4).bind fun x_8=>
  if (decide (x_7<(len x_8.Chars)))=true then
    (idx l_1 x_4).bind fun x_10=>
    (idx x_10.Chars x_7).bind fun x_11=>
    (q2c F x_11.fT x_11.Props x_11.Perms x_11.Value).bind fun x_12=>
    if (x_12 != 0)=true then
      some (.done (.inr (0,x_12)))
    else
      if ((iand .i64 x_11.Props 48) != 0)=true then
        q3u F x_7 x_11 (w64 ((w64 ((w64 (x_6+2))+(len x_11.More)))+1))
      else
        q3u F x_7 x_11 (w64 ((w64 (x_6+2))+(len x_11.More)))
  else
    some (.done (.inl (x_6)))
def q3w (F:Nat) (l_1:(List Tx3)) (x_3:Int) (x_4:Int):Option (Out (Int×Int) (Sum (Int) (Int×Int))):=
  if (decide (x_4<(len l_1)))=true then
    (iter (fun s=>q3v F l_1 x_4 s.1 s.2) F (w64 (x_3+1),0)).bind fun o=>
    match o with
    | .inl u=>q5e F x_4 u
    | .inr u=>some (.done (.inr u))
  else
    some (.done (.inl (x_3)))
def q34 (F:Nat) (l_1:(List Tx3)):Option (Int×Int):=
  (iter (fun s=>q3w F l_1 s.1 s.2) F (0,0)).bind fun o=>
  match o with
  | .inl u=>q5d F u
  | .inr u=>some u
def q5h (_:Nat) (l_3:(List Int)):Option ((List Int)):=
  some l_3
def q3x (_:Nat) (size_2:Int) (x_4:Int) (l_5:(List Int)) (x_6:Int):Option (Out (Int×(List Int)×Int) ((List Int))):=
  if (decide (x_6<size_2))=true then
    (app 1 l_5 [wu8 (remp x_4 256)]).bind fun l_7=>
    some (.next ((quop .u64 x_4 256),l_7,w64 (x_6+1)))
  else
    some (.done (l_5))
def qo (F:Nat) (n_1:Int) (size_2:Int):Option ((List Int)):=
  (iter (fun s=>q3x F size_2 s.1 s.2.1 s.2.2) F (n_1,[],0)).bind fun o=>
  q5h F o
def q5i (_:Nat) (l_4:(List Int)):Option ((List Int)):=
  some l_4
def q2d (F:Nat) (u_1:Tx0):Option ((List Int)):=
  (q16 F u_1).bind fun x_2=>
  if x_2.2=true then
    (qo F (wu64 x_2.1) 2).bind fun x_3=>
    some x_3
  else
    (qo F u_1.Low 8).bind fun x_7=>
    (qo F u_1.High 8).bind fun x_8=>
    (app 1 x_7 x_8).bind fun l_9=>
    q5i F l_9
def q5j (_:Nat) (l_6:(List Tx1)):Option ((List Tx1)):=
  some l_6
def qj (F:Nat) (db_1:(List Tx1)) (first_2:Int) (t_3:Tx0) (perms_4:Int) (value_5:(List Int)):Option ((List Tx1)):=
  (app 1 ([]:(List Int)) value_5).bind fun l_809=>
  (app 56 db_1 [(Tx1.mk (wu16 (first_2+(wu16 (len db_1)))) t_3 perms_4 l_809)]).bind fun l_1049=>
  q5j F l_1049
def q5k (_:Nat) (l_8:(List Tx1)):Option ((List Tx1)):=
  some l_8
def q3y (F:Nat) (first_2:Int) (c_3:Tx2) (l_9:(List Tx1)) (x_10:Int):Option (Out ((List Tx1)×Int) ((List Tx1))):=
  if (decide (x_10<(len c_3.More)))=true then
    (idx c_3.More x_10).bind fun x_11=>
    (idx c_3.More x_10).bind fun x_12=>
    (idx c_3.More x_10).bind fun x_13=>
    (qj F l_9 first_2 x_11.fT x_12.Perms x_13.Value).bind fun x_16=>
    some (.next (x_16,w64 (x_10+1)))
  else
    some (.done (l_9))
def q3z (F:Nat) (first_2:Int) (c_3:Tx2) (l_7:(List Tx1)):Option ((List Tx1)):=
  (iter (fun s=>q3y F first_2 c_3 s.1 s.2) F (l_7,0)).bind fun o=>
  q5k F o
def q5l (F:Nat) (first_2:Int) (c_3:Tx2) (l_5:(List Tx1)):Option ((List Tx1)):=
  (qj F l_5 first_2 c_3.fT c_3.Perms c_3.Value).bind fun x_6=>
  if ((iand .i64 c_3.Props 48) != 0)=true then
    (qb F 10498).bind fun x_17=>
    (qj F x_6 first_2 x_17 3 [0,0]).bind fun x_18=>
    q3z F first_2 c_3 x_18
  else
    q3z F first_2 c_3 x_6
def q5m (F:Nat) (db_1:(List Tx1)) (first_2:Int) (c_3:Tx2) (l_4:(List Int)):Option ((List Tx1)):=
  (qb F 10243).bind fun x_21=>
  (q2d F c_3.fT).bind fun x_22=>
  (app 1 l_4 x_22).bind fun l_23=>
  (qj F db_1 first_2 x_21 1 l_23).bind fun x_24=>
  q5l F first_2 c_3 x_24
def q35 (F:Nat) (db_1:(List Tx1)) (first_2:Int) (c_3:Tx2):Option ((List Tx1)):=
  (qo F (wu64 (w64 ((w64 ((w64 first_2)+(len db_1)))+1))) 2).bind fun x_907=>
  (app 1 [wu8 c_3.Props] x_907).bind fun l_987=>
  q5m F db_1 first_2 c_3 l_987
def q5n (_:Nat) (l_4:(List Tx1)):Option ((List Tx1)×Int):=
  some (l_4,0)
def q5o (_:Nat) (x_6:Int) (l_7:(List Tx1)):Option (Out ((List Tx1)×Int) ((List Tx1))):=
  some (.next (l_7,w64 (x_6+1)))
def q40 (F:Nat) (l_1:(List Tx3)) (first_2:Int) (x_6:Int) (l_10:(List Tx1)) (x_11:Int):Option (Out ((List Tx1)×Int) ((List Tx1))):=
  (idx l_1 x_6).bind fun x_12=>
  if (decide (x_11<(len x_12.Chars)))=true then
    (idx l_1 x_6).bind fun x_13=>
    (idx x_13.Chars x_11).bind fun x_14=>
    (q35 F l_10 first_2 x_14).bind fun x_15=>
    some (.next (x_15,w64 (x_11+1)))
  else
    some (.done (l_10))
def q5p (F:Nat) (l_1:(List Tx3)) (first_2:Int) (x_6:Int) (l_9:(List Tx1)):Option (Out ((List Tx1)×Int) ((List Tx1))):=
  (iter (fun s=>q40 F l_1 first_2 x_6 s.1 s.2) F (l_9,0)).bind fun o=>
  q5o F x_6 o
def q41 (F:Nat) (l_1:(List Tx3)) (first_2:Int) (l_5:(List Tx1)) (x_6:Int) (x_8:Int):Option (Out ((List Tx1)×Int) ((List Tx1))):=
  (idx l_1 x_6).bind fun x_16=>
  (qb F x_8).bind fun x_19=>
  (q2d F x_16.fT).bind fun x_20=>
  (qj F l_5 first_2 x_19 1 x_20).bind fun x_21=>
  q5p F l_1 first_2 x_6 x_21
def q42 (F:Nat) (l_1:(List Tx3)) (first_2:Int) (l_5:(List Tx1)) (x_6:Int):Option (Out ((List Tx1)×Int) ((List Tx1))):=
  if (decide (x_6<(len l_1)))=true then
    (idx l_1 x_6).bind fun x_22=>
    if x_22.Primary=true then
      q41 F l_1 first_2 l_5 x_6 10240
    else
      q41 F l_1 first_2 l_5 x_6 10241
  else
    some (.done (l_5))
def q36 (F:Nat) (l_1:(List Tx3)) (first_2:Int):Option ((List Tx1)×Int):=
  if (first_2 == 0)=true then
    some ([],5)
  else
    (q34 F l_1).bind fun x_3=>
    if (x_3.2 != 0)=true then
      some ([],x_3.2)
    else
      if (decide (x_3.1 > 1000))=true then
        some ([],4)
      else
        if (decide ((w64 ((w64 ((w64 first_2)+x_3.1)) - 1)) > 65535))=true then
          some ([],8)
        else
          (iter (fun s=>q42 F l_1 first_2 s.1 s.2) F ([],0)).bind fun o=>
          q5n F o
def q1x (F:Nat) (t_1:Int):Option ((List Tx1)):=
  (qb F 6159).bind fun x_2=>
  (qb F t_1).bind fun x_3=>
  (q36 F [(Tx3.mk x_2 true [(Tx2.mk x_3 2 1 [50] [])])] 1).bind fun x_4=>
  some x_4.1
def q43 (_:Nat) (u_1:Tx0):Option ((Int×Int×Int×Int×Int×Int×Int×Int×Int×Int×Int×Int×Int×Int×Int×Int)):=
  some (wu8 (shrp u_1.Low 0),wu8 (shrp u_1.Low 8),wu8 (shrp u_1.Low 16),wu8 (shrp u_1.Low 24),wu8 (shrp u_1.Low 32),wu8 (shrp u_1.Low 40),wu8 (shrp u_1.Low 48),wu8 (shrp u_1.Low 56),wu8 (shrp u_1.High 0),wu8 (shrp u_1.High 8),wu8 (shrp u_1.High 16),wu8 (shrp u_1.High 24),wu8 (shrp u_1.High 32),wu8 (shrp u_1.High 40),wu8 (shrp u_1.High 48),wu8 (shrp u_1.High 56))
def q44 (F:Nat) (u_1:Tx0):Option ((Int×Int×Int×Int×Int×Int×Int×Int×Int×Int×Int×Int×Int×Int×Int×Int)):=
  q43 F u_1
def q45 (F:Nat) (u_1:Tx0):Option ((Int×Int×Int×Int×Int×Int×Int×Int×Int×Int×Int×Int×Int×Int×Int×Int)):=
  q44 F u_1
def q46 (F:Nat) (u_1:Tx0):Option ((Int×Int×Int×Int×Int×Int×Int×Int×Int×Int×Int×Int×Int×Int×Int×Int)):=
  q45 F u_1
def q47 (F:Nat) (u_1:Tx0):Option ((Int×Int×Int×Int×Int×Int×Int×Int×Int×Int×Int×Int×Int×Int×Int×Int)):=
  q46 F u_1
def q48 (F:Nat) (u_1:Tx0):Option ((Int×Int×Int×Int×Int×Int×Int×Int×Int×Int×Int×Int×Int×Int×Int×Int)):=
  q47 F u_1
def q49 (F:Nat) (u_1:Tx0):Option ((Int×Int×Int×Int×Int×Int×Int×Int×Int×Int×Int×Int×Int×Int×Int×Int)):=
  q48 F u_1
def q4a (F:Nat) (u_1:Tx0):Option ((Int×Int×Int×Int×Int×Int×Int×Int×Int×Int×Int×Int×Int×Int×Int×Int)):=
  q49 F u_1
def q4b (F:Nat) (u_1:Tx0):Option ((Int×Int×Int×Int×Int×Int×Int×Int×Int×Int×Int×Int×Int×Int×Int×Int)):=
  q4a F u_1
def q10 (F:Nat) (u_1:Tx0):Option ((Int×Int×Int×Int×Int×Int×Int×Int×Int×Int×Int×Int×Int×Int×Int×Int)):=
  q4b F u_1
def q4c (_:Nat) (x_2:(Int×Int×Int×Int×Int×Int×Int×Int×Int×Int×Int×Int×Int×Int×Int×Int)) (z_3:Bool):Option (Int×Bool):=
  if z_3=true then
    some (0,false)
  else
    some (ior .u16 (wu16 x_2.2.2.2.2.2.2.2.2.2.2.2.2.1) (shlp .u16 (wu16 x_2.2.2.2.2.2.2.2.2.2.2.2.2.2.1) 8),true)
def q1b (F:Nat) (u_1:Tx0):Option (Int×Bool):=
  (q10 F u_1).bind fun x_2=>
  (q10 F (Tx0.mk 4096 9223372588214596859)).bind fun x_6=>
  q4c F x_2 (!((x_2.1 == x_6.1)&&((x_2.2.1 == x_6.2.1)&&((x_2.2.2.1 == x_6.2.2.1)&&((x_2.2.2.2.1 == x_6.2.2.2.1)&&((x_2.2.2.2.2.1 == x_6.2.2.2.2.1)&&((x_2.2.2.2.2.2.1 == x_6.2.2.2.2.2.1)&&((x_2.2.2.2.2.2.2.1 == x_6.2.2.2.2.2.2.1)&&((x_2.2.2.2.2.2.2.2.1 == x_6.2.2.2.2.2.2.2.1)&&((x_2.2.2.2.2.2.2.2.2.1 == x_6.2.2.2.2.2.2.2.2.1)&&((x_2.2.2.2.2.2.2.2.2.2.1 == x_6.2.2.2.2.2.2.2.2.2.1)&&((x_2.2.2.2.2.2.2.2.2.2.2.1 == x_6.2.2.2.2.2.2.2.2.2.2.1)&&((x_2.2.2.2.2.2.2.2.2.2.2.2.1 == x_6.2.2.2.2.2.2.2.2.2.2.2.1)&&((0 == x_6.2.2.2.2.2.2.2.2.2.2.2.2.1)&&((0 == x_6.2.2.2.2.2.2.2.2.2.2.2.2.2.1)&&((x_2.2.2.2.2.2.2.2.2.2.2.2.2.2.2.1 == x_6.2.2.2.2.2.2.2.2.2.2.2.2.2.2.1)&&(x_2.2.2.2.2.2.2.2.2.2.2.2.2.2.2.2 == x_6.2.2.2.2.2.2.2.2.2.2.2.2.2.2.2)))))))))))))))))
def q5q (_:Nat):Option (Int):=
  some (-1)
def q1c (_:Nat) (s_1:(List Int)) (v_2:Int) (x_3:Int):Option (Out (Int) (Sum (Unit) (Int))):=
  if (decide (x_3<(len s_1)))=true then
    (idx s_1 x_3).bind fun x_4=>
    if (v_2 == x_4)=true then
      some (.done (.inr x_3))
    else
      some (.next (w64 (x_3+1)))
  else
    some (.done (.inl ()))
def q2e (F:Nat) (s_1:(List Int)) (v_2:Int):Option (Int):=
  (iter (fun s=>q1c F s_1 v_2 s) F (0)).bind fun o=>
  match o with
  | .inl _=>q5q F
  | .inr u=>some u
def q1d (F:Nat) (s_1:(List Int)) (v_2:Int):Option (Bool):=
  (q2e F s_1 v_2).bind fun x_3=>
  some (decide (x_3≥0))
def qe (F:Nat) (u_1:Tx0) (numbers_2:(List Int)):Option (Bool):=
  (q1b F u_1).bind fun x_3=>
  (if x_3.2=true then
    (q1d F numbers_2 x_3.1).bind fun x_7=>
    some (x_7)
  else
    some (false)).bind fun z_5=>
  some z_5
def qk (F:Nat) (u_1:Tx0):Option (Bool):=
  (qe F u_1 [10240,10241]).bind fun x_2=>
  some x_2
def qt (F:Nat) (u_1:Tx0):Option (Bool):=
  (qk F u_1).bind fun x_2=>
  (if x_2=true then
    some (true)
  else
    (qe F u_1 [10242,10243]).bind fun x_6=>
    some (x_6)).bind fun z_4=>
  some z_4
def q1e (_:Nat) (n_1:Int):Option (Tx0):=
  some (Tx0.mk (ior .u64 (shlp .u64 (wu64 n_1) 32) 4096) 9223372588214596859)
def q5r (_:Nat) (c_4:Tx0):Option (Tx0×Int):=
  some (c_4,0)
def q4d (F:Nat) (c_12:Tx0):Option (Tx0×Int):=
  (q1b F c_12).bind fun x_13=>
  if x_13.2=true then
    some ((Tx0.mk 0 0),2)
  else
    some (c_12,0)
def q4e (_:Nat) (b_1:(List Int)) (c_16:Tx0) (x_17:Int) (x_18:Int):Option (Out (Tx0×Int) (Tx0)):=
  (idx b_1 (w64 (8+x_17))).bind fun x_19=>
  (ishl .u64 (wu64 x_19) (w64 (8 * x_17))).bind fun x_22=>
  some (.next ((Tx0.mk (ior .u64 c_16.High x_22) x_18),w64 (x_17+1)))
def q1f (F:Nat) (b_1:(List Int)) (c_16:Tx0) (x_17:Int):Option (Out (Tx0×Int) (Tx0)):=
  if (decide (x_17<8))=true then
    (idx b_1 x_17).bind fun x_23=>
    (ishl .u64 (wu64 x_23) (w64 (8 * x_17))).bind fun x_26=>
    q4e F b_1 c_16 x_17 (ior .u64 c_16.Low x_26)
  else
    some (.done (c_16))
def q1g (F:Nat) (b_1:(List Int)):Option (Tx0×Int):=
  if ((len b_1) == 2)=true then
    (idx b_1 0).bind fun x_5=>
    (idx b_1 1).bind fun x_6=>
    (q1e F (ior .u16 (wu16 x_5) (shlp .u16 (wu16 x_6) 8))).bind fun x_9=>
    q5r F x_9
  else
    if (decide ((len b_1)<16))=true then
      some ((Tx0.mk 0 0),3)
    else
      if (decide ((len b_1) > 16))=true then
        some ((Tx0.mk 0 0),2)
      else
        (iter (fun s=>q1f F b_1 s.1 s.2) F ((Tx0.mk 0 0),0)).bind fun o=>
        q4d F o
def q4f (_:Nat) (x_3:Tx0×Int) (x_4:Int) (x_5:Int):Option (Int×Int×Tx0×Bool):=
  some (x_4,x_5,x_3.1,true)
def q2f (F:Nat) (b_1:(List Int)):Option (Int×Int×Tx0×Bool):=
  if (decide ((len b_1)<3))=true then
    some (0,0,(Tx0.mk 0 0),false)
  else
    (sub b_1 3 (len b_1)).bind fun l_2=>
    (q1g F l_2).bind fun x_3=>
    if (x_3.2 != 0)=true then
      some (0,0,(Tx0.mk 0 0),false)
    else
      (idx b_1 0).bind fun x_6=>
      (idx b_1 1).bind fun x_7=>
      (idx b_1 2).bind fun x_8=>
      q4f F x_3 (w64 x_6) (ior .u16 (wu16 x_7) (shlp .u16 (wu16 x_8) 8))
def q2g (F:Nat) (u_1:Tx0):Option (Bool):=
  (qt F u_1).bind fun x_2=>
  (if x_2=true then
    some (true)
  else
    (qe F u_1 [10498]).bind fun x_6=>
    some (x_6)).bind fun z_4=>
  some z_4
def q1y (_:Nat) (z_10:Bool):Option (Bool):=
  some z_10
def q2u (F:Nat) (db_1:(List Tx1)) (i_2:Int) (at_3:Tx9) (x_4:Tx1) (z_5:Bool):Option (Bool):=
  if z_5=true then
    some true
  else
    (qk F x_4.fT).bind fun x_6=>
    if x_6=true then
      (q1g F x_4.Value).bind fun x_7=>
      some (x_7.2 != 0)
    else
      (qe F x_4.fT [10243]).bind fun x_8=>
      if x_8=true then
        (q2f F x_4.Value).bind fun x_9=>
        if (!x_9.2.2.2)=true then
          if (true||(decide ((w64 (i_2+1))≥(len db_1))))=true then
            q1y F true
          else
            (idx db_1 (w64 (i_2+1))).bind fun x_15=>
            if (x_15.Handle != x_9.2.1)=true then
              q1y F true
            else
              (idx db_1 (w64 (i_2+1))).bind fun x_17=>
              q1y F (!((x_17.fT.High == x_9.2.2.1.High)&&(x_17.fT.Low == x_9.2.2.1.Low)))
        else
          (q2g F x_9.2.2.1).bind fun x_18=>
          if (x_18||(decide ((w64 (i_2+1))≥(len db_1))))=true then
            q1y F true
          else
            (idx db_1 (w64 (i_2+1))).bind fun x_20=>
            if (x_20.Handle != x_9.2.1)=true then
              q1y F true
            else
              (idx db_1 (w64 (i_2+1))).bind fun x_22=>
              q1y F (!((x_22.fT.High == x_9.2.2.1.High)&&(x_22.fT.Low == x_9.2.2.1.Low)))
      else
        (qe F x_4.fT [10498]).bind fun x_23=>
        if x_23=true then
          some ((((len x_4.Value) != 2)||(!at_3.char))||at_3.config)
        else
          some false
def q2h (F:Nat) (db_1:(List Tx1)) (i_2:Int) (at_3:Tx9):Option (Bool):=
  (idx db_1 i_2).bind fun x_4=>
  (if (i_2 == 0)=true then
    (qk F x_4.fT).bind fun x_28=>
    some ((!x_28))
  else
    some (false)).bind fun z_25=>
  if z_25=true then
    q2u F db_1 i_2 at_3 x_4 z_25
  else
    (qt F x_4.fT).bind fun x_26=>
    q2u F db_1 i_2 at_3 x_4 (x_26&&((iand .i64 x_4.Perms 2) != 0))
def q5s (_:Nat):Option (Int):=
  some 0
def q2i (_:Nat) (x_6:Int) (x_7:Int) (c_10:Tx9):Option (Out (Int×Tx9×Int) (Sum (Unit) (Int))):=
  some (.next (x_7,c_10,w64 (x_6+1)))
def q1z (F:Nat) (db_1:(List Tx1)) (x_2:Int) (c_5:Tx9) (x_6:Int):Option (Out (Int×Tx9×Int) (Sum (Unit) (Int))):=
  if (decide (x_6<(len db_1)))=true then
    (idx db_1 x_6).bind fun x_11=>
    if (decide (x_11.Handle≤x_2))=true then
      some (.done (.inr 13))
    else
      if ((decide (x_11.Perms<0))||(decide (x_11.Perms > 15)))=true then
        some (.done (.inr 5))
      else
        if (decide ((len x_11.Value) > 512))=true then
          some (.done (.inr 4))
        else
          (q2h F db_1 x_6 c_5).bind fun x_12=>
          if x_12=true then
            some (.done (.inr 1))
          else
            (qk F x_11.fT).bind fun x_13=>
            if x_13=true then
              q2i F x_6 x_11.Handle (Tx9.mk false false)
            else
              (qe F x_11.fT [10243]).bind fun x_14=>
              if x_14=true then
                q2i F x_6 x_11.Handle (Tx9.mk true false)
              else
                (qe F x_11.fT [10498]).bind fun x_15=>
                if x_15=true then
                  q2i F x_6 x_11.Handle ({ c_5 with config:=true })
                else
                  q2i F x_6 x_11.Handle c_5
  else
    some (.done (.inl ()))
def q1h (F:Nat) (db_1:(List Tx1)):Option (Int):=
  if (decide ((len db_1) > 1000))=true then
    some 4
  else
    (iter (fun s=>q1z F db_1 s.1 s.2.1 s.2.2) F (0,(Tx9.mk false false),0)).bind fun o=>
    match o with
    | .inl _=>q5s F
    | .inr u=>some u
def q5t (_:Nat) (z_3:Bool):Option (Bool):=
  some z_3
def q9 (F:Nat) (u_1:Tx0) (n_2:Int):Option (Bool):=
  (q1e F n_2).bind fun x_6=>
  q5t F ((u_1.High == x_6.High)&&(u_1.Low == x_6.Low))
def q5u (_:Nat):Option (Int×Int×Bool):=
  some (0,0,false)
def q5v (_:Nat) (x_11:Int) (x_12:Int):Option (Out (Int) (Sum (Unit) (Int×Int×Bool))):=
  some (.done (.inr (x_11,x_12,true)))
def q4g (F:Nat) (db_1:(List Tx1)) (x_3:Int):Option (Out (Int) (Sum (Unit) (Int×Int×Bool))):=
  (if (decide (x_3≥0))=true then
    (idx db_1 x_3).bind fun x_22=>
    (q9 F x_22.fT 10240).bind fun x_23=>
    some ((!x_23))
  else
    some (false)).bind fun z_5=>
  (if z_5=true then
    (idx db_1 x_3).bind fun x_19=>
    (q9 F x_19.fT 10241).bind fun x_20=>
    some ((!x_20))
  else
    some (false)).bind fun z_7=>
  if z_7=true then
    (idx db_1 x_3).bind fun x_8=>
    (idx db_1 x_3).bind fun x_9=>
    (q9 F x_9.fT 10243).bind fun x_10=>
    if (x_10&&(decide ((len x_8.Value) > 2)))=true then
      (idx x_8.Value 0).bind fun x_13=>
      (idx x_8.Value 1).bind fun x_14=>
      (idx x_8.Value 2).bind fun x_15=>
      q5v F (w64 x_13) (ior .u16 (wu16 x_14) (shlp .u16 (wu16 x_15) 8))
    else
      some (.next (w64 (x_3 - 1)))
  else
    some (.done (.inl ()))
def q1i (F:Nat) (db_1:(List Tx1)) (i_2:Int):Option (Int×Int×Bool):=
  (iter (fun s=>q4g F db_1 s) F (i_2)).bind fun o=>
  match o with
  | .inl _=>q5u F
  | .inr u=>some u
def q4h (_:Nat) (x_3:Int):Option (Int):=
  some x_3
def q4i (F:Nat) (props_1:Int) (x_2:Int):Option (Int):=
  if ((iand .i64 props_1 32) != 0)=true then
    q4h F (ior .i64 x_2 2)
  else
    q4h F x_2
def q37 (F:Nat) (props_1:Int):Option (Int):=
  if ((iand .i64 props_1 16) != 0)=true then
    q4i F props_1 (ior .i64 0 1)
  else
    q4i F props_1 0
def q5w (_:Nat):Option (Int×Bool):=
  some (0,false)
def q4j (_:Nat) (x_3:Int):Option (Out (Int) (Sum (Unit) (Int×Bool))):=
  some (.next (w64 (x_3+1)))
def q4k (F:Nat) (db_1:(List Tx1)) (handle_2:Int) (x_3:Int):Option (Out (Int) (Sum (Unit) (Int×Bool))):=
  if (decide (x_3<(len db_1)))=true then
    (idx db_1 x_3).bind fun x_4=>
    (q9 F x_4.fT 10498).bind fun x_5=>
    if (!x_5)=true then
      q4j F x_3
    else
      (q1i F db_1 x_3).bind fun x_6=>
      if (x_6.2.2&&(x_6.2.1 == handle_2))=true then
        (q37 F x_6.1).bind fun x_7=>
        some (.done (.inr (x_7,true)))
      else
        q4j F x_3
  else
    some (.done (.inl ()))
def q2j (F:Nat) (db_1:(List Tx1)) (handle_2:Int):Option (Int×Bool):=
  (iter (fun s=>q4k F db_1 handle_2 s) F (0)).bind fun o=>
  match o with
  | .inl _=>q5w F
  | .inr u=>some u
def q5x (_:Nat) (l_2:(List Int)):Option ((List Int)):=
  some l_2
def qu (_:Nat) (parts_1:(List (List Int))) (l_3:(List Int)) (x_4:Int):Option (Out ((List Int)×Int) ((List Int))):=
  if (decide (x_4<(len parts_1)))=true then
    (idx parts_1 x_4).bind fun x_5=>
    (app 1 l_3 x_5).bind fun l_6=>
    some (.next (l_6,w64 (x_4+1)))
  else
    some (.done (l_3))
def q6 (F:Nat) (parts_1:(List (List Int))):Option ((List Int)):=
  (iter (fun s=>qu F parts_1 s.1 s.2) F ([],0)).bind fun o=>
  q5x F o
def q5y (_:Nat) (l_2:(List Tx1)):Option ((List Tx1)):=
  some l_2
def q1j (F:Nat) (db_1:(List Tx1)) (l_3:(List Tx1)) (x_4:Int):Option (Out ((List Tx1)×Int) ((List Tx1))):=
  if (decide (x_4<(len db_1)))=true then
    (idx db_1 x_4).bind fun x_5=>
    (q6 F [x_5.Value]).bind fun x_6=>
    (app 56 l_3 [{ x_5 with Value:=x_6 }]).bind fun l_7=>
    some (.next (l_7,w64 (x_4+1)))
  else
    some (.done (l_3))
def q7 (F:Nat) (db_1:(List Tx1)):Option ((List Tx1)):=
  (iter (fun s=>q1j F db_1 s.1 s.2) F ([],0)).bind fun o=>
  q5y F o
def qf (_:Nat) (s_1:(List Tx4)):Option ((List Tx4)):=
  (app 16 ([]:(List Tx4)) s_1).bind fun l_2=>
  some l_2
def q38 (F:Nat) (db_1:(List Tx1)) (max_2:Int) (level_3:Int) (robust_4:Bool) (aware_5:Int) (subs_6:(List Tx4)):Option (Tx8×Int):=
  (q7 F db_1).bind fun x_8=>
  (qf F subs_6).bind fun x_9=>
  some ((Tx8.mk x_8 23 max_2 level_3 [] aware_5 robust_4 x_9 [] false 0),0)
def q2v (F:Nat) (db_1:(List Tx1)) (subs_6:(List Tx4)) (x_10:Int) (x_11:Int):Option (Out (Int×Int) (Sum (Unit) (Tx8×Int))):=
  if (decide (x_11<(len subs_6)))=true then
    (idx subs_6 x_11).bind fun x_12=>
    (q2j F db_1 x_12.Handle).bind fun x_13=>
    if ((decide (x_11 > 0))&&(decide (x_12.Handle≤x_10)))=true then
      some (.done (.inr ((Tx8.mk [] 0 0 0 [] 0 false [] [] false 0),13)))
    else
      if (!x_13.2)=true then
        some (.done (.inr ((Tx8.mk [] 0 0 0 [] 0 false [] [] false 0),6)))
      else
        if ((x_12.Bits == 0)||((iandnot .i64 x_12.Bits x_13.1) != 0))=true then
          some (.done (.inr ((Tx8.mk [] 0 0 0 [] 0 false [] [] false 0),5)))
        else
          some (.next (x_12.Handle,w64 (x_11+1)))
  else
    some (.done (.inl ()))
def q1k (F:Nat) (db_1:(List Tx1)) (max_2:Int) (level_3:Int) (robust_4:Bool) (aware_5:Int) (subs_6:(List Tx4)):Option (Tx8×Int):=
  (q1h F db_1).bind fun x_7=>
  if (x_7 != 0)=true then
    some ((Tx8.mk [] 0 0 0 [] 0 false [] [] false 0),x_7)
  else
    if ((((((decide (max_2<23))||(decide (max_2 > 517)))||(decide (level_3<0)))||(decide (level_3 > 2)))||(decide (aware_5<0)))||(decide (aware_5 > 2)))=true then
      some ((Tx8.mk [] 0 0 0 [] 0 false [] [] false 0),5)
    else
      (iter (fun s=>q2v F db_1 subs_6 s.1 s.2) F (0,0)).bind fun o=>
      match o with
      | .inl _=>q38 F db_1 max_2 level_3 robust_4 aware_5 subs_6
      | .inr u=>some u
def q11 (_:Nat) (s_1:(List Tx5)):Option ((List Tx5)):=
  (app 40 ([]:(List Tx5)) s_1).bind fun l_2=>
  some l_2
def q20 (_:Nat) (s_1:(List Tx7)):Option ((List Tx7)):=
  (app 120 ([]:(List Tx7)) s_1).bind fun l_2=>
  some l_2
def q5z (_:Nat) (s_1:Tx8) (c_6:Tx8) (l_7:(List Tx5)) (l_8:(List Tx7)):Option (Txa):=
  some (Txa.mk ({ s_1 with DB:=c_6.DB,Queue:=l_7,Subs:=c_6.Subs,Out:=l_8 }) [])
def q1l (F:Nat) (c_6:Tx8) (l_9:(List Tx7)) (x_10:Int):Option (Out ((List Tx7)×Int) ((List Tx7))):=
  if (decide (x_10<(len c_6.Out)))=true then
    (idx l_9 x_10).bind fun x_11=>
    (q6 F [x_11.Value]).bind fun x_494=>
    (idx l_9 x_10).bind fun _=>
    (idx l_9 x_10).bind fun x_734=>
    (upd l_9 x_10 ({ x_734 with Value:=x_494 })).bind fun l_735=>
    some (.next (l_735,w64 (x_10+1)))
  else
    some (.done (l_9))
def q4l (F:Nat) (s_1:Tx8) (c_6:Tx8) (l_7:(List Tx5)):Option (Txa):=
  (iter (fun s=>q1l F c_6 s.1 s.2) F (c_6.Out,0)).bind fun o=>
  q5z F s_1 c_6 l_7 o
def q1m (F:Nat) (c_6:Tx8) (l_894:(List Tx5)) (x_895:Int):Option (Out ((List Tx5)×Int) ((List Tx5))):=
  if (decide (x_895<(len c_6.Queue)))=true then
    (idx l_894 x_895).bind fun x_896=>
    (q6 F [x_896.Value]).bind fun x_1379=>
    (idx l_894 x_895).bind fun _=>
    (idx l_894 x_895).bind fun x_1619=>
    (upd l_894 x_895 ({ x_1619 with Value:=x_1379 })).bind fun l_1620=>
    some (.next (l_1620,w64 (x_895+1)))
  else
    some (.done (l_894))
def q39 (F:Nat) (s_1:Tx8) (c_6:Tx8):Option (Txa):=
  (iter (fun s=>q1m F c_6 s.1 s.2) F (c_6.Queue,0)).bind fun o=>
  q4l F s_1 c_6 o
def q1n (F:Nat) (s_1:Tx8):Option (Txa):=
  (q7 F s_1.DB).bind fun x_1941=>
  (qf F s_1.Subs).bind fun x_2181=>
  (q11 F s_1.Queue).bind fun x_2421=>
  (q20 F s_1.Out).bind fun x_2661=>
  q39 F s_1 ({ s_1 with DB:=x_1941,Queue:=x_2421,Subs:=x_2181,Out:=x_2661 })
def q21 (F:Nat) (_:Txa):Option (Unit):=
  some ()
def q2w (_:Nat) (a_1:Tx1) (p_2:Int):Option (Bool×Int):=
  some ((a_1.Handle == p_2),p_2)
def q60 (_:Nat) (x_3:Int):Option (Int×Int):=
  some ((-1),x_3)
def q1o (F:Nat) (s_1:(List Tx1)) (x_4:Int) (x_5:Int):Option (Out (Int×Int) (Sum (Int) (Int×Int))):=
  if (decide (x_5<(len s_1)))=true then
    (idx s_1 x_5).bind fun x_6=>
    (q2w F x_6 x_4).bind fun x_7=>
    if x_7.1=true then
      some (.done (.inr (x_5,x_7.2)))
    else
      some (.next (x_7.2,w64 (x_5+1)))
  else
    some (.done (.inl (x_4)))
def q2x (F:Nat) (s_1:(List Tx1)) (c_2:Int):Option (Int×Int):=
  (iter (fun s=>q1o F s_1 s.1 s.2) F (c_2,0)).bind fun o=>
  match o with
  | .inl u=>q60 F u
  | .inr u=>some u
def qg (F:Nat) (db_1:(List Tx1)) (handle_2:Int):Option (Int):=
  (q2x F db_1 handle_2).bind fun x_3=>
  some x_3.1
def q1p (_:Nat) (x_1:Txa) (a_2:Tx1) (perm_3:Int) (code_4:Int):Option (Int):=
  if ((iand .i64 a_2.Perms perm_3) == 0)=true then
    some code_4
  else
    if (((iand .i64 a_2.Perms 8) != 0)&&(decide (x_1.Sv.Level<2)))=true then
      some 5
    else
      if (((iand .i64 a_2.Perms 4) != 0)&&(decide (x_1.Sv.Level<1)))=true then
        some 15
      else
        some 0
def qw (F:Nat) (x_1:Txa) (handle_2:Int):Option (Int×Int×Txa):=
  (qg F x_1.Sv.DB handle_2).bind fun x_3=>
  if (decide (x_3<0))=true then
    some (0,1,x_1)
  else
    (idx x_1.Sv.DB x_3).bind fun x_4=>
    (q1p F x_1 x_4 2 3).bind fun x_5=>
    some (x_3,x_5,x_1)
def qa (_:Nat) (p_1:Tx7) (handle_2:Int) (code_3:Int):Option (Tx7):=
  some (Tx7.mk 1 p_1.Kind handle_2 0 (Tx0.mk 0 0) 0 0 code_3 false [] [])
def q4m (_:Nat) (p_2:Tx7) (x_3:Int×Int×Txa) (l_4:(List Tx1)):Option (Tx7×Txa):=
  some ((Tx7.mk 19 0 0 0 (Tx0.mk 0 0) 0 0 0 false [] []),(Txa.mk ({ x_3.2.2.Sv with DB:=l_4 }) [p_2.Handle]))
def qp (F:Nat) (x_1:Txa) (p_2:Tx7):Option (Tx7×Txa):=
  (qw F x_1 p_2.Handle).bind fun x_3=>
  if (x_3.2.1 != 0)=true then
    (qa F p_2 p_2.Handle x_3.2.1).bind fun x_5=>
    some (x_5,x_3.2.2)
  else
    (idx x_3.2.2.Sv.DB x_3.1).bind fun x_6=>
    (q9 F x_6.fT 10498).bind fun x_7=>
    if (x_7&&((len p_2.Value) != 2))=true then
      (qa F p_2 p_2.Handle 13).bind fun x_8=>
      some (x_8,x_3.2.2)
    else
      (idx x_3.2.2.Sv.DB x_3.1).bind fun x_9=>
      (q9 F x_9.fT 10498).bind fun x_10=>
      if x_10=true then
        (q1i F x_3.2.2.Sv.DB x_3.1).bind fun x_11=>
        if x_11.2.2=true then
          none
        else
          q4m F p_2 x_3 x_3.2.2.Sv.DB
      else
        (q6 F [p_2.Value]).bind fun x_734=>
        (idx x_3.2.2.Sv.DB x_3.1).bind fun _=>
        (idx x_3.2.2.Sv.DB x_3.1).bind fun x_974=>
        (upd x_3.2.2.Sv.DB x_3.1 ({ x_974 with Value:=x_734 })).bind fun l_975=>
        q4m F p_2 x_3 l_975
def q2k (_:Nat) (phase_1:Int) (hashRead_2:Bool):Option (Int×Bool):=
  if ((phase_1 == 0)&&(!hashRead_2))=true then
    some (1,true)
  else
    some (2,false)
def q2l (F:Nat) (x_1:Txa) (a_2:Tx1):Option (Int):=
  (q1p F x_1 a_2 1 2).bind fun x_3=>
  some x_3
def q3a (_:Nat) (n_1:Int):Option (Bool):=
  some ((decide (n_1≥1))&&(decide (n_1≤8)))
def q61 (_:Nat) (l_2:(List Int)):Option ((List Int)×Int):=
  some (l_2,0)
def q62 (_:Nat) (x_4:Int) (l_5:(List Int)):Option (Out ((List Int)×Int) (Sum ((List Int)) ((List Int)×Int))):=
  some (.next (l_5,w64 (x_4+1)))
def q4n (_:Nat) (x_6:Txb) (l_10:(List Int)) (x_11:Int):Option (Out ((List Int)×Int) ((List Int))):=
  if (decide (x_11<x_6.Size))=true then
    (ishr .u64 x_6.Value (w64 (8 * x_11))).bind fun x_12=>
    (app 1 l_10 [wu8 x_12]).bind fun l_13=>
    some (.next (l_13,w64 (x_11+1)))
  else
    some (.done (l_10))
def q4o (F:Nat) (fields_1:(List Txb)) (l_3:(List Int)) (x_4:Int):Option (Out ((List Int)×Int) (Sum ((List Int)) ((List Int)×Int))):=
  if (decide (x_4<(len fields_1)))=true then
    (idx fields_1 x_4).bind fun x_6=>
    (q3a F x_6.Size).bind fun x_7=>
    (if (!x_7)=true then
      some (true)
    else
      if (decide (x_6.Size<8))=true then
        (ishr .u64 x_6.Value (w64 (8 * x_6.Size))).bind fun x_16=>
        some ((x_16 != 0))
      else
        some (false)).bind fun z_9=>
    if z_9=true then
      some (.done (.inr ([],5)))
    else
      (iter (fun s=>q4n F x_6 s.1 s.2) F (l_3,0)).bind fun o=>
      q62 F x_4 o
  else
    some (.done (.inl (l_3)))
def q1q (F:Nat) (fields_1:(List Txb)):Option ((List Int)×Int):=
  (iter (fun s=>q4o F fields_1 s.1 s.2) F ([],0)).bind fun o=>
  match o with
  | .inl u=>q61 F u
  | .inr u=>some u
def qx (F:Nat) (size_1:Int) (n_2:Int):Option ((List Int)):=
  (q1q F [(Txb.mk size_1 n_2)]).bind fun x_3=>
  some x_3.1
def q2m (_:Nat) (n_1:Int) (bits_2:Int):Option (Int):=
  if (decide (bits_2≤0))=true then
    some 0
  else
    if (decide (bits_2≥64))=true then
      some n_1
    else
      (ishl .u64 1 bits_2).bind fun x_3=>
      some (iand .u64 n_1 (wu64 (x_3 - 1)))
def q3b (F:Nat) (x_1:Int):Option ((Int×Int)):=
  (q2m F x_1 32).bind fun x_2=>
  some (wu32 (shrp x_1 32),wu32 x_2)
def q3c (_:Nat) (x_1:Int) (k_2:Int):Option (Int):=
  (ishl .u64 x_1 (iand .u64 (wu64 k_2) 63)).bind fun x_3=>
  (ishr .u64 x_1 (wu64 (64 - (iand .u64 (wu64 k_2) 63)))).bind fun x_4=>
  some (ior .u64 x_3 x_4)
def q2n (_:Nat) (x_1:Int) (k_2:Int):Option (Int):=
  (ishl .u32 x_1 (iand .u64 (wu64 k_2) 31)).bind fun x_3=>
  (ishr .u32 x_1 (wu64 (32 - (iand .u64 (wu64 k_2) 31)))).bind fun x_4=>
  some (ior .u32 x_3 x_4)
def ql (F:Nat) (k_1:Int) (i_2:Int) (half_3:Int):Option (Int):=
  (q3c F k_1 (remp (w64 (11 * (remp i_2 64))) 64)).bind fun x_4=>
  (q2m F x_4 32).bind fun x_5=>
  (q2n F (wu32 (half_3+(wu32 x_5))) 7).bind fun x_6=>
  (q2n F (wu32 x_5) 16).bind fun x_7=>
  some (ixor .u32 (wu32 (x_6 * 2654435761)) x_7)
def q3d (_:Nat) (h_1:(Int×Int)):Option (Int):=
  some (ior .u64 (shlp .u64 (wu64 h_1.1) 32) (wu64 h_1.2))
def q63 (F:Nat) (x_4:Int) (x_5:Int):Option (Int):=
  (q3d F (x_4,x_5)).bind fun x_6=>
  some x_6
def q4p (F:Nat) (k_1:Int) (x_7:Int) (x_8:Int) (x_9:Int):Option (Out (Int×Int×Int) (Int×Int)):=
  if (decide (x_9<8))=true then
    (ql F k_1 x_9 x_8).bind fun x_652=>
    some (.next (x_8,ixor .u32 x_7 x_652,w64 (x_9+1)))
  else
    some (.done (x_7,x_8))
def q2o (F:Nat) (k_1:Int) (x_2:Int):Option (Int):=
  (q3b F x_2).bind fun x_3=>
  (iter (fun s=>q4p F k_1 s.1 s.2.1 s.2.2) F (x_3.1,x_3.2,0)).bind fun o=>
  q63 F o.1 o.2
def q64 (_:Nat) (x_7:Int) (x_8:Int):Option (Out (Int×Int) (Int)):=
  some (.next (x_8,w64 (x_7+8)))
def q6r (F:Nat) (k_1:Int) (x_6:Int) (x_9:Int):Option (Int):=
  (q2o F k_1 (ixor .u64 x_6 x_9)).bind fun x_11=>
  some x_11
def q65 (F:Nat) (k_1:Int) (x_6:Int) (x_7:Int) (x_9:Int):Option (Out (Int×Int) (Int)):=
  (q6r F k_1 x_6 x_9).bind fun o_10=>
  q64 F x_7 o_10
def q4q (_:Nat) (l_12:(List Int)) (x_13:Int) (x_14:Int):Option (Out (Int×Int) (Int)):=
  if (decide (x_14<(len l_12)))=true then
    (idx l_12 x_14).bind fun x_15=>
    (ishl .u64 (wu64 x_15) (w64 (8 * x_14))).bind fun x_16=>
    some (.next (ior .u64 x_13 x_16,w64 (x_14+1)))
  else
    some (.done (x_13))
def q4r (F:Nat) (k_1:Int) (b_2:(List Int)) (x_6:Int) (x_7:Int):Option (Out (Int×Int) (Int)):=
  if (decide (x_7<(len b_2)))=true then
    (sub b_2 x_7 (imin (w64 (x_7+8)) (len b_2))).bind fun l_12=>
    (iter (fun s=>q4q F l_12 s.1 s.2) F (0,0)).bind fun o=>
    q65 F k_1 x_6 x_7 o
  else
    some (.done (x_6))
def q6s (F:Nat) (k_1:Int) (b_2:(List Int)) (x_3:Int):Option (Int):=
  (iter (fun s=>q4r F k_1 b_2 s.1 s.2) F (x_3,0)).bind fun o=>
  some o
def q2p (F:Nat) (k_1:Int) (b_2:(List Int)):Option (Int):=
  (q2o F k_1 (wu64 (len b_2))).bind fun x_3=>
  (q6s F k_1 b_2 x_3).bind fun o_4=>
  some o_4
def q66 (F:Nat) (l_2:(List Txb)):Option ((List Int)):=
  (q1q F l_2).bind fun x_3=>
  some x_3.1
def q4s (_:Nat) (numbers_1:(List Int)) (l_4:(List Txb)) (x_5:Int):Option (Out ((List Txb)×Int) ((List Txb))):=
  if (decide (x_5<(len numbers_1)))=true then
    (idx numbers_1 x_5).bind fun x_6=>
    (app 16 l_4 [(Txb.mk 8 x_6)]).bind fun l_7=>
    some (.next (l_7,w64 (x_5+1)))
  else
    some (.done (l_4))
def q3e (F:Nat) (numbers_1:(List Int)):Option ((List Int)):=
  (iter (fun s=>q4s F numbers_1 s.1 s.2) F ([],0)).bind fun o=>
  q66 F o
def q3f (F:Nat) (k_1:Int) (label_2:List Int) (parts_3:(List Int)):Option (Int):=
  (app 1 ([]:List Int) label_2).bind fun l_4=>
  (q3e F parts_3).bind fun x_5=>
  (q6 F [l_4,[0],x_5]).bind fun x_6=>
  (q2p F k_1 x_6).bind fun x_7=>
  some x_7
def q67 (F:Nat) (l_2:(List Int)):Option (Int):=
  (q2p F 0 l_2).bind fun x_3=>
  (q3f F 0 [104,97,115,104] [x_3]).bind fun x_4=>
  some (imax 1 x_4)
def q4t (_:Nat) (x_6:Int) (l_7:(List Int)):Option (Out ((List Int)×Int) ((List Int))):=
  some (.next (l_7,w64 (x_6+1)))
def q68 (F:Nat) (x_6:Int) (x_8:Tx1) (l_9:(List Int)):Option (Out ((List Int)×Int) ((List Int))):=
  (qt F x_8.fT).bind fun x_10=>
  if x_10=true then
    (qx F 2 (wu64 (len x_8.Value))).bind fun x_13=>
    (q6 F [x_13,x_8.Value]).bind fun x_14=>
    (app 1 l_9 x_14).bind fun l_15=>
    q4t F x_6 l_15
  else
    q4t F x_6 l_9
def q4u (F:Nat) (db_1:(List Tx1)) (l_5:(List Int)) (x_6:Int):Option (Out ((List Int)×Int) ((List Int))):=
  if (decide (x_6<(len db_1)))=true then
    (idx db_1 x_6).bind fun x_8=>
    (qx F 2 (wu64 x_8.Handle)).bind fun x_18=>
    (qx F 8 x_8.fT.Low).bind fun x_19=>
    (qx F 8 x_8.fT.High).bind fun x_20=>
    (q6 F [x_18,x_19,x_20]).bind fun x_21=>
    (app 1 l_5 x_21).bind fun l_22=>
    q68 F x_6 x_8 l_22
  else
    some (.done (l_5))
def q1r (F:Nat) (db_1:(List Tx1)):Option (Int):=
  (iter (fun s=>q4u F db_1 s.1 s.2) F ([],0)).bind fun o=>
  q67 F o
def q3g (_:Nat) (s_1:Tx4) (p_2:Int):Option (Bool×Int):=
  some ((s_1.Handle == p_2),p_2)
def q69 (_:Nat) (x_3:Int):Option (Int×Int):=
  some ((-1),x_3)
def q4v (F:Nat) (s_1:(List Tx4)) (x_4:Int) (x_5:Int):Option (Out (Int×Int) (Sum (Int) (Int×Int))):=
  if (decide (x_5<(len s_1)))=true then
    (idx s_1 x_5).bind fun x_6=>
    (q3g F x_6 x_4).bind fun x_7=>
    if x_7.1=true then
      some (.done (.inr (x_5,x_7.2)))
    else
      some (.next (x_7.2,w64 (x_5+1)))
  else
    some (.done (.inl (x_4)))
def q3h (F:Nat) (s_1:(List Tx4)) (c_2:Int):Option (Int×Int):=
  (iter (fun s=>q4v F s_1 s.1 s.2) F (c_2,0)).bind fun o=>
  match o with
  | .inl u=>q69 F u
  | .inr u=>some u
def q2q (F:Nat) (x_1:Txa) (handle_2:Int):Option (Int):=
  (q3h F x_1.Sv.Subs handle_2).bind fun x_3=>
  some x_3.1
def q4w (_:Nat) (x_8:Int):Option ((List Int)):=
  some [wu8 x_8,wu8 (shrp x_8 8)]
def q2r (F:Nat) (x_1:Txa) (i_2:Int):Option ((List Int)):=
  (idx x_1.Sv.DB i_2).bind fun x_3=>
  (q9 F x_3.fT 11050).bind fun x_4=>
  if x_4=true then
    (q1r F x_1.Sv.DB).bind fun x_5=>
    (q1q F [(Txb.mk 8 x_5)]).bind fun x_6=>
    some x_6.1
  else
    (q9 F x_3.fT 10498).bind fun x_7=>
    if x_7=true then
      (q1i F x_1.Sv.DB i_2).bind fun x_9=>
      (if x_9.2.2=true then
        (q2q F x_1 x_9.2.1).bind fun x_17=>
        some (decide (x_17≥0))
      else
        some (false)).bind fun z_11=>
      if z_11=true then
        (q2q F x_1 x_9.2.1).bind fun x_14=>
        (idx x_1.Sv.Subs x_14).bind fun x_15=>
        q4w F x_15.Bits
      else
        q4w F 0
    else
      (q6 F [x_3.Value]).bind fun x_18=>
      some x_18
def q3i (_:Nat) (kind_1:Int):Option (Int):=
  if (kind_1 == 2)=true then
    some 3
  else
    if (kind_1 == 4)=true then
      some 5
    else
      if (kind_1 == 8)=true then
        some 9
      else
        if (kind_1 == 10)=true then
          some 11
        else
          if (kind_1 == 12)=true then
            some 13
          else
            if (kind_1 == 16)=true then
              some 17
            else
              if (kind_1 == 18)=true then
                some 19
              else
                if (kind_1 == 22)=true then
                  some 23
                else
                  if (kind_1 == 24)=true then
                    some 25
                  else
                    if (kind_1 == 29)=true then
                      some 30
                    else
                      some (-1)
def q3j (_:Nat) (mtu_2:Int) (z_6:Bool):Option (Int):=
  if z_6=true then
    some (w64 ((imax 23 (imin mtu_2 517)) - 2))
  else
    some 0
def q4x (F:Nat) (kind_1:Int) (mtu_2:Int) (z_5:Bool):Option (Int):=
  if z_5=true then
    some (imin 512 (w64 ((imax 23 (imin mtu_2 517)) - 5)))
  else
    if (kind_1 == 5)=true then
      q3j F mtu_2 (kind_1 == 5)
    else
      if (kind_1 == 9)=true then
        q3j F mtu_2 (kind_1 == 9)
      else
        q3j F mtu_2 (kind_1 == 17)
def q2y (F:Nat) (kind_1:Int) (mtu_2:Int) (z_4:Bool):Option (Int):=
  if z_4=true then
    some (imin 512 (w64 ((imax 23 (imin mtu_2 517)) - 3)))
  else
    if (kind_1 == 22)=true then
      q4x F kind_1 mtu_2 (kind_1 == 22)
    else
      q4x F kind_1 mtu_2 (kind_1 == 23)
def q2z (F:Nat) (kind_1:Int) (mtu_2:Int) (z_3:Bool):Option (Int):=
  if z_3=true then
    some (imin 512 (w64 ((imax 23 (imin mtu_2 517)) - 1)))
  else
    if (kind_1 == 18)=true then
      q2y F kind_1 mtu_2 (kind_1 == 18)
    else
      if (kind_1 == 82)=true then
        q2y F kind_1 mtu_2 (kind_1 == 82)
      else
        if (kind_1 == 27)=true then
          q2y F kind_1 mtu_2 (kind_1 == 27)
        else
          q2y F kind_1 mtu_2 (kind_1 == 29)
def qy (F:Nat) (kind_1:Int) (mtu_2:Int):Option (Int):=
  if (kind_1 == 11)=true then
    q2z F kind_1 mtu_2 (kind_1 == 11)
  else
    q2z F kind_1 mtu_2 (kind_1 == 13)
def q2s (F:Nat) (b_1:(List Int)) (n_2:Int):Option ((List Int)):=
  (sub b_1 0 (imax 0 (imin n_2 (len b_1)))).bind fun l_3=>
  (q6 F [l_3]).bind fun x_4=>
  some x_4
def q6a (_:Nat) (x_9:Int) (l_11:(List Int)):Option (Tx7):=
  some (Tx7.mk x_9 0 0 0 (Tx0.mk 0 0) 0 0 0 false l_11 [])
def q30 (F:Nat) (x_1:Txa) (x_9:Int) (l_10:(List Int)):Option (Tx7):=
  (qy F x_9 x_1.Sv.MTU).bind fun x_14=>
  (q2s F l_10 x_14).bind fun x_15=>
  q6a F x_9 x_15
def q3k (F:Nat) (x_1:Txa) (p_2:Tx7) (x_3:Int):Option (Tx7):=
  if (decide (x_3<0))=true then
    (qa F p_2 p_2.Handle 1).bind fun x_4=>
    some x_4
  else
    (idx x_1.Sv.DB x_3).bind fun x_5=>
    (q2l F x_1 x_5).bind fun x_6=>
    if (x_6 != 0)=true then
      (qa F p_2 p_2.Handle x_6).bind fun x_7=>
      some x_7
    else
      (q2r F x_1 x_3).bind fun x_8=>
      (q3i F p_2.Kind).bind fun x_9=>
      if (p_2.Kind == 12)=true then
        if ((decide (p_2.Offset<0))||(decide (p_2.Offset > (len x_8))))=true then
          (qa F p_2 p_2.Handle 7).bind fun x_16=>
          some x_16
        else
          (sub x_8 p_2.Offset (len x_8)).bind fun l_17=>
          q30 F x_1 x_9 l_17
      else
        q30 F x_1 x_9 x_8
def qz (F:Nat) (x_1:Txa) (p_2:Tx7):Option (Tx7):=
  (qg F x_1.Sv.DB p_2.Handle).bind fun x_20=>
  q3k F x_1 p_2 x_20
def q6b (_:Nat) (x_1:Txa) (p_2:Tx7):Option (Tx7×Txa):=
  some ((Tx7.mk 3 0 0 0 (Tx0.mk 0 0) 0 x_1.Sv.Max 0 false [] []),{ x_1 with Sv:={ x_1.Sv with MTU:=imin p_2.MTU x_1.Sv.Max } })
def q3l (F:Nat) (x_1:Txa) (p_2:Tx7):Option (Tx7×Txa):=
  q6b F x_1 p_2
def q6c (_:Nat) (p_2:Tx7) (x_3:Int×Int×Txa) (l_9:(List Tx5)) (l_10:(List Int)):Option (Tx7×Txa):=
  some ({ p_2 with Kind:=23,Asked:=0,Last:=0,fT:=(Tx0.mk 0 0),MTU:=0,Code:=0,Commit:=false,Value:=l_10,List:=[] },{ x_3.2.2 with Sv:={ x_3.2.2.Sv with Queue:=l_9 } })
def q4y (F:Nat) (p_2:Tx7) (x_3:Int×Int×Txa) (l_9:(List Tx5)):Option (Tx7×Txa):=
  (q6 F [p_2.Value]).bind fun x_13=>
  q6c F p_2 x_3 l_9 x_13
def q22 (F:Nat) (x_1:Txa) (p_2:Tx7):Option (Tx7×Txa):=
  (qw F x_1 p_2.Handle).bind fun x_3=>
  if (x_3.2.1 != 0)=true then
    (qa F p_2 p_2.Handle x_3.2.1).bind fun x_4=>
    some (x_4,x_3.2.2)
  else
    (idx x_3.2.2.Sv.DB x_3.1).bind fun x_5=>
    (q9 F x_5.fT 10498).bind fun x_6=>
    if x_6=true then
      (qa F p_2 p_2.Handle 6).bind fun x_7=>
      some (x_7,x_3.2.2)
    else
      if (decide ((len x_3.2.2.Sv.Queue)≥16))=true then
        (qa F p_2 p_2.Handle 9).bind fun x_8=>
        some (x_8,x_3.2.2)
      else
        (q6 F [p_2.Value]).bind fun x_1056=>
        (app 40 x_3.2.2.Sv.Queue [(Tx5.mk p_2.Handle p_2.Offset x_1056)]).bind fun l_1296=>
        q4y F p_2 x_3 l_1296
def q4z (_:Nat) (x_1:Txa) (l_4:(List Tx1)) (l_5:(List Int)):Option (Tx7×Txa):=
  some ((Tx7.mk 25 0 0 0 (Tx0.mk 0 0) 0 0 0 false [] []),(Txa.mk ({ x_1.Sv with DB:=l_4,Queue:=[] }) l_5))
def q3m (_:Nat) (x_8:Int) (l_9:(List Tx1)) (l_10:(List Int)):Option (Out ((List Tx1)×(List Int)×Int) (Sum ((List Tx1)×(List Int)) (Tx7×Txa))):=
  some (.next (l_9,l_10,w64 (x_8+1)))
def q23 (F:Nat) (x_1:Txa) (p_2:Tx7) (l_6:(List Tx1)) (l_7:(List Int)) (x_8:Int):Option (Out ((List Tx1)×(List Int)×Int) (Sum ((List Tx1)×(List Int)) (Tx7×Txa))):=
  if (decide (x_8<(len x_1.Sv.Queue)))=true then
    (idx x_1.Sv.Queue x_8).bind fun x_11=>
    (qg F l_6 x_11.Handle).bind fun x_12=>
    if (decide (x_12<0))=true then
      (qa F p_2 x_11.Handle 1).bind fun x_13=>
      some (.done (.inr (x_13,{ x_1 with Sv:={ x_1.Sv with Queue:=[] } })))
    else
      (idx l_6 x_12).bind fun x_14=>
      if ((decide (x_11.Offset<0))||(decide (x_11.Offset > (len x_14.Value))))=true then
        (qa F p_2 x_11.Handle 7).bind fun x_15=>
        some (.done (.inr (x_15,{ x_1 with Sv:={ x_1.Sv with Queue:=[] } })))
      else
        if (decide ((w64 (x_11.Offset+(len x_11.Value))) > 512))=true then
          (qa F p_2 x_11.Handle 13).bind fun x_16=>
          some (.done (.inr (x_16,{ x_1 with Sv:={ x_1.Sv with Queue:=[] } })))
        else
          (sub x_14.Value 0 x_11.Offset).bind fun l_19=>
          (q6 F [l_19,x_11.Value]).bind fun x_20=>
          (idx l_6 x_12).bind fun _=>
          (idx l_6 x_12).bind fun x_22=>
          (upd l_6 x_12 ({ x_22 with Value:=x_20 })).bind fun l_23=>
          (q1d F l_7 x_11.Handle).bind fun x_24=>
          if (!x_24)=true then
            (app 2 l_7 [x_11.Handle]).bind fun l_25=>
            q3m F x_8 l_23 l_25
          else
            q3m F x_8 l_23 l_7
  else
    some (.done (.inl (l_6,l_7)))
def q24 (F:Nat) (x_1:Txa) (p_2:Tx7):Option (Tx7×Txa):=
  if (!p_2.Commit)=true then
    some ((Tx7.mk 25 0 0 0 (Tx0.mk 0 0) 0 0 0 false [] []),{ x_1 with Sv:={ x_1.Sv with Queue:=[] } })
  else
    (q7 F x_1.Sv.DB).bind fun x_3=>
    (iter (fun s=>q23 F x_1 p_2 s.1 s.2.1 s.2.2) F (x_3,[],0)).bind fun o=>
    match o with
    | .inl u=>q4z F x_1 u.1 u.2
    | .inr u=>some u
def q6d (_:Nat) (x_11:Tx7×Txa):Option (Tx8×(List Tx7)×(List Int)):=
  some (x_11.2.Sv,[],x_11.2.wn)
def q6e (_:Nat) (x_4:Txa) (x_14:Int) (x_16:Tx7):Option (Tx8×(List Tx7)×(List Int)):=
  some ({ x_4.Sv with Aware:=x_14 },[x_16],x_4.wn)
def q6f (_:Nat) (x_1139:Tx7×Txa):Option (Tx8×(List Tx7)×(List Int)):=
  some (x_1139.2.Sv,[x_1139.1],x_1139.2.wn)
def q6g (_:Nat) (x_2262:Tx7×Txa):Option (Tx8×(List Tx7)×(List Int)):=
  some (x_2262.2.Sv,[x_2262.1],x_2262.2.wn)
def q6h (_:Nat) (x_3385:Tx7×Txa):Option (Tx8×(List Tx7)×(List Int)):=
  some (x_3385.2.Sv,[x_3385.1],x_3385.2.wn)
def q6i (_:Nat) (x_4508:Tx7×Txa):Option (Tx8×(List Tx7)×(List Int)):=
  some (x_4508.2.Sv,[x_4508.1],x_4508.2.wn)
def qq (F:Nat) (p_2:Tx7) (x_4:Txa) (x_14:Int):Option (Tx8×(List Tx7)×(List Int)):=
  if ((p_2.Kind == 10)||(p_2.Kind == 12))=true then
    (qz F ({ x_4 with Sv:={ x_4.Sv with Aware:=x_14 } }) p_2).bind fun x_16=>
    q6e F x_4 x_14 x_16
  else
    if (p_2.Kind == 2)=true then
      (q3l F ({ x_4 with Sv:={ x_4.Sv with Aware:=x_14 } }) p_2).bind fun x_1139=>
      q6f F x_1139
    else
      if (p_2.Kind == 4)=true then
        none
      else
        if (p_2.Kind == 8)=true then
          none
        else
          if (p_2.Kind == 16)=true then
            none
          else
            if (p_2.Kind == 18)=true then
              (qp F ({ x_4 with Sv:={ x_4.Sv with Aware:=x_14 } }) p_2).bind fun x_2262=>
              q6g F x_2262
            else
              if (p_2.Kind == 22)=true then
                (q22 F ({ x_4 with Sv:={ x_4.Sv with Aware:=x_14 } }) p_2).bind fun x_3385=>
                q6h F x_3385
              else
                if (p_2.Kind == 24)=true then
                  (q24 F ({ x_4 with Sv:={ x_4.Sv with Aware:=x_14 } }) p_2).bind fun x_4508=>
                  q6i F x_4508
                else
                  none
def q6j (_:Nat) (x_4:Txa) (x_5631:Int) (l_5633:(List Tx7)):Option (Tx8×(List Tx7)×(List Int)):=
  some ({ x_4.Sv with Aware:=x_5631 },l_5633,[])
def q50 (F:Nat) (p_2:Tx7) (x_4:Txa) (x_5631:Int) (z_5632:Bool):Option (Tx8×(List Tx7)×(List Int)):=
  if z_5632=true then
    (qa F p_2 p_2.Handle 18).bind fun x_5636=>
    q6j F x_4 x_5631 [x_5636]
  else
    qq F p_2 x_4 x_5631
def q6k (_:Nat) (x_6686:Tx7×Txa):Option (Tx8×(List Tx7)×(List Int)):=
  some (x_6686.2.Sv,[],x_6686.2.wn)
def qi (F:Nat) (s_1:Tx8) (p_2:Tx7) (_:Int):Option (Tx8×(List Tx7)×(List Int)):=
  (q1n F s_1).bind fun x_4=>
  if (((p_2.Kind == 10)||(p_2.Kind == 12))||((p_2.Kind == 2)||((p_2.Kind == 4)||((p_2.Kind == 8)||((p_2.Kind == 16)||((p_2.Kind == 18)||((p_2.Kind == 22)||(p_2.Kind == 24))))))))=true then
    (q21 F x_4).bind fun _=>
    if (p_2.Kind == 30)=true then
      some ({ x_4.Sv with Wait:=false },[],[])
    else
      if ((p_2.Kind == 82)&&((!x_4.Sv.Robust)||(x_4.Sv.Aware == 2)))=true then
        (qp F x_4 p_2).bind fun x_11=>
        q6d F x_11
      else
        if x_4.Sv.Robust=true then
          if (p_2.Kind == 8)=true then
            (q9 F p_2.fT 11050).bind fun x_6680=>
            (q2k F x_4.Sv.Aware x_6680).bind fun x_6681=>
            q50 F p_2 x_4 x_6681.1 x_6681.2
          else
            (q2k F x_4.Sv.Aware false).bind fun x_6682=>
            q50 F p_2 x_4 x_6682.1 x_6682.2
        else
          qq F p_2 x_4 x_4.Sv.Aware
  else
    (q21 F x_4).bind fun _=>
    if (p_2.Kind == 30)=true then
      some ({ x_4.Sv with Wait:=false },[],[])
    else
      if ((p_2.Kind == 82)&&((!x_4.Sv.Robust)||(x_4.Sv.Aware == 2)))=true then
        (qp F x_4 p_2).bind fun x_6686=>
        q6k F x_6686
      else
        some (x_4.Sv,[],[])
def q6l (_:Nat) (x_3:Txa) (x_6:(List Tx1)) (l_7:(List Tx4)) (l_8:(List Tx7)):Option (Tx8×Int):=
  some ({ x_3.Sv with DB:=x_6,Queue:=[],Aware:=0,Subs:=l_7,Out:=l_8 },0)
def q6m (F:Nat) (x_6:(List Tx1)) (x_9:Int) (x_10:Tx4) (x_11:Int):Option (Out (Int) ((List Tx7))):=
  (if (((iand .i64 x_10.Bits 2) != 0)&&(decide (x_11≥0)))=true then
    (idx x_6 x_11).bind fun x_15=>
    (q9 F x_15.fT 10757).bind fun x_16=>
    some (x_16)
  else
    some (false)).bind fun z_13=>
  if z_13=true then
    some (.done ([(Tx7.mk 29 0 x_10.Handle 0 (Tx0.mk 0 0) 0 0 0 false [1,0,255,255] [])]))
  else
    some (.next (w64 (x_9+1)))
def q51 (F:Nat) (x_6:(List Tx1)) (l_7:(List Tx4)) (x_9:Int):Option (Out (Int) ((List Tx7))):=
  if (decide (x_9<(len l_7)))=true then
    (idx l_7 x_9).bind fun x_10=>
    (qg F x_6 x_10.Handle).bind fun x_19=>
    q6m F x_6 x_9 x_10 x_19
  else
    some (.done ([]))
def q6n (F:Nat) (x_3:Txa) (x_6:(List Tx1)) (l_7:(List Tx4)):Option (Tx8×Int):=
  (iter (fun s=>q51 F x_6 l_7 s) F (0)).bind fun o=>
  q6l F x_3 x_6 l_7 o
def q52 (_:Nat) (x_21:Int) (l_22:(List Tx4)):Option (Out ((List Tx4)×Int) ((List Tx4))):=
  some (.next (l_22,w64 (x_21+1)))
def q53 (F:Nat) (db_2:(List Tx1)) (x_3:Txa) (l_20:(List Tx4)) (x_21:Int):Option (Out ((List Tx4)×Int) ((List Tx4))):=
  if (decide (x_21<(len x_3.Sv.Subs)))=true then
    (idx x_3.Sv.Subs x_21).bind fun x_23=>
    (q2j F db_2 x_23.Handle).bind fun x_24=>
    if ((iand .i64 x_23.Bits x_24.1) != 0)=true then
      (app 16 l_20 [{ x_23 with Bits:=iand .i64 x_23.Bits x_24.1 }]).bind fun l_25=>
      q52 F x_21 l_25
    else
      q52 F x_21 l_20
  else
    some (.done (l_20))
def q6o (F:Nat) (db_2:(List Tx1)) (x_3:Txa) (z_5:Bool):Option (Tx8×Int):=
  (q7 F db_2).bind fun x_6=>
  if z_5=true then
    some ({ x_3.Sv with DB:=x_6 },0)
  else
    (iter (fun s=>q53 F db_2 x_3 s.1 s.2) F ([],0)).bind fun o=>
    q6n F x_3 x_6 o
def q3n (F:Nat) (s_1:Tx8) (db_2:(List Tx1)):Option (Tx8×Int):=
  (q1n F s_1).bind fun x_3=>
  (q1h F db_2).bind fun x_4=>
  if (x_4 != 0)=true then
    some (x_3.Sv,x_4)
  else
    (q1r F db_2).bind fun x_28=>
    (q1r F x_3.Sv.DB).bind fun x_29=>
    q6o F db_2 x_3 (x_28 == x_29)
def qm (_:Nat) (a_1:(List Int)) (b_2:(List Int)):Option (Bool):=
  some ((str a_1) == (str b_2))
def q6p (F:Nat) (x_2:Tx8×Int) (x_3:Tx8×(List Tx7)×(List Int)) (x_4:Tx8×(List Tx7)×(List Int)) (c_16:Tx8) (x_17:Int):Option (Bool):=
  (qi F c_16 (Tx7.mk 10 0 3 0 (Tx0.mk 0 0) 0 0 0 false [] []) 0).bind fun x_18=>
  (qi F x_18.1 (Tx7.mk 10 0 3 0 (Tx0.mk 0 0) 0 0 0 false [] []) 0).bind fun x_19=>
  if ((((((x_2.2 != 0)||(x_17 != 0))||((len x_3.2.1) != 1))||((len x_4.2.1) != 1))||((len x_18.2.1) != 1))||((len x_19.2.1) != 1))=true then
    some false
  else
    (idx x_3.2.1 0).bind fun x_20=>
    (if (x_20.Kind == 11)=true then
      (idx x_3.2.1 0).bind fun x_40=>
      (qm F x_40.Value [50]).bind fun x_41=>
      some (x_41)
    else
      some (false)).bind fun z_22=>
    (if z_22=true then
      (idx x_4.2.1 0).bind fun x_38=>
      some ((x_38.Kind == 1))
    else
      some (false)).bind fun z_24=>
    (if z_24=true then
      (idx x_4.2.1 0).bind fun x_36=>
      some ((x_36.Code == 1))
    else
      some (false)).bind fun z_26=>
    (if z_26=true then
      (idx x_18.2.1 0).bind fun x_34=>
      some ((x_34.Code == 18))
    else
      some (false)).bind fun z_28=>
    (if z_28=true then
      (idx x_19.2.1 0).bind fun x_32=>
      some ((x_32.Kind == 11))
    else
      some (false)).bind fun z_30=>
    some z_30
def q12 (F:Nat):Option (Bool):=
  (q1x F 10777).bind fun x_1=>
  (q1k F x_1 100 0 true 2 []).bind fun x_2=>
  (qi F x_2.1 (Tx7.mk 10 0 3 0 (Tx0.mk 0 0) 0 0 0 false [] []) 0).bind fun x_3=>
  (qi F x_3.1 (Tx7.mk 10 0 9 0 (Tx0.mk 0 0) 0 0 0 false [] []) 0).bind fun x_4=>
  (q1x F 10778).bind fun x_124=>
  (q3n F x_4.1 x_124).bind fun x_204=>
  q6p F x_2 x_3 x_4 x_204.1 x_204.2
def q6q (_:Nat) (x_3:Tx8×(List Tx7)×(List Int)) (c_16:Tx7):Option (Tx8×Tx7×Bool):=
  some (x_3.1,c_16,true)
def q8 (F:Nat) (s_1:Tx8) (p_2:Tx7):Option (Tx8×Tx7×Bool):=
  (qi F s_1 p_2 0).bind fun x_3=>
  if ((len x_3.2.1) != 1)=true then
    some (x_3.1,(Tx7.mk 0 0 0 0 (Tx0.mk 0 0) 0 0 0 false [] []),false)
  else
    (idx x_3.2.1 0).bind fun x_17=>
    q6q F x_3 x_17
def q3o (_:Nat) (mtu_2:Int) (z_6:Bool):Option (Int):=
  if z_6=true then
    some (w64 ((imin (imax mtu_2 23) 517) - 2))
  else
    some 0
def q3p (F:Nat) (kind_1:Int) (mtu_2:Int) (z_5:Bool):Option (Int):=
  if z_5=true then
    some (imin 512 (w64 ((imin (imax mtu_2 23) 517) - 5)))
  else
    if (kind_1 == 5)=true then
      q3o F mtu_2 (kind_1 == 5)
    else
      if (kind_1 == 9)=true then
        q3o F mtu_2 (kind_1 == 9)
      else
        q3o F mtu_2 (kind_1 == 17)
def q2t (F:Nat) (kind_1:Int) (mtu_2:Int) (z_4:Bool):Option (Int):=
  if z_4=true then
    some (imin 512 (w64 ((imin (imax mtu_2 23) 517) - 3)))
  else
    if (kind_1 == 22)=true then
      q3p F kind_1 mtu_2 (kind_1 == 22)
    else
      q3p F kind_1 mtu_2 (kind_1 == 23)
def q31 (F:Nat) (kind_1:Int) (mtu_2:Int) (z_3:Bool):Option (Int):=
  if z_3=true then
    some (imin 512 (w64 ((imin (imax mtu_2 23) 517) - 1)))
  else
    if (kind_1 == 18)=true then
      q2t F kind_1 mtu_2 (kind_1 == 18)
    else
      if (kind_1 == 82)=true then
        q2t F kind_1 mtu_2 (kind_1 == 82)
      else
        if (kind_1 == 27)=true then
          q2t F kind_1 mtu_2 (kind_1 == 27)
        else
          q2t F kind_1 mtu_2 (kind_1 == 29)
def qr (F:Nat) (kind_1:Int) (mtu_2:Int):Option (Int):=
  if (kind_1 == 11)=true then
    q31 F kind_1 mtu_2 (kind_1 == 11)
  else
    q31 F kind_1 mtu_2 (kind_1 == 13)
def q54 (_:Nat) (c_18:Tx7) (z_19:Bool) (l_20:(List Int)):Option ((List Int)×Bool):=
  some (l_20,(z_19&&(c_18.Kind != 1)))
def q55 (F:Nat) (c_18:Tx7) (z_19:Bool) (l_20:(List Int)):Option ((List Int)×Bool):=
  q54 F c_18 z_19 l_20
def q13 (F:Nat) (s_1:Tx8) (handle_2:Int) (x_4:Int) (c_35:Tx7) (z_36:Bool) (l_37:(List Int)):Option (Out (Tx7×Bool×(List Int)) (Tx7×Bool×(List Int))):=
  if (((z_36&&(c_35.Kind != 1))&&((len c_35.Value) == x_4))&&(decide ((len l_37)<512)))=true then
    (q8 F s_1 (Tx7.mk 12 0 handle_2 0 (Tx0.mk 0 0) (len l_37) 0 0 false [] [])).bind fun x_38=>
    (app 1 l_37 x_38.2.1.Value).bind fun l_39=>
    some (.next (x_38.2.1,x_38.2.2,l_39))
  else
    some (.done (c_35,z_36,l_37))
def q14 (F:Nat) (s_1:Tx8) (handle_2:Int):Option ((List Int)×Bool):=
  (q8 F s_1 (Tx7.mk 10 0 handle_2 0 (Tx0.mk 0 0) 0 0 0 false [] [])).bind fun x_3=>
  (qr F 11 s_1.MTU).bind fun x_4=>
  (app 1 ([]:(List Int)) x_3.2.1.Value).bind fun l_5=>
  (iter (fun s=>q13 F s_1 handle_2 x_4 s.1 s.2.1 s.2.2) F (x_3.2.1,x_3.2.2,l_5)).bind fun o=>
  q55 F o.1 o.2.1 o.2.2
def q32 (F:Nat) (value_3:(List Int)) (x_11:Tx1) (c_27:Tx8) (z_28:Bool):Option (Bool):=
  (q14 F c_27 x_11.Handle).bind fun x_29=>
  (if (z_28&&x_29.2)=true then
    (qm F x_29.1 value_3).bind fun x_37=>
    some (x_37)
  else
    some (false)).bind fun z_31=>
  (if z_31=true then
    (q12 F).bind fun x_35=>
    some (x_35)
  else
    some (false)).bind fun z_33=>
  some z_33
def q3q (F:Nat) (value_3:(List Int)) (x_11:Tx1) (c_50:Tx8) (_:Tx7):Option (Bool):=
  (q14 F c_50 x_11.Handle).bind fun x_64=>
  (if (!x_64.2)=true then
    some (true)
  else
    (qm F x_64.1 x_11.Value).bind fun x_69=>
    some ((!x_69))).bind fun z_66=>
  if z_66=true then
    some false
  else
    (q8 F c_50 (Tx7.mk 24 0 0 0 (Tx0.mk 0 0) 0 0 0 true [] [])).bind fun x_67=>
    q32 F value_3 x_11 x_67.1 (x_67.2.2&&(x_67.2.1.Kind == 25))
def q56 (_:Nat) (value_3:(List Int)) (x_38:Int) (x_95:Int) (c_107:Tx8) (c_120:Tx7) (z_121:Bool):Option (Out (Tx8×Tx7×Int) (Sum (Tx8×Tx7) (Bool))):=
  if ((!z_121)||(c_120.Kind != 23))=true then
    some (.done (.inr false))
  else
    some (.next (c_107,c_120,w64 (x_95+(imax x_38 (quop .i64 (w64 ((len value_3)+14)) 15)))))
def q1s (F:Nat) (value_3:(List Int)) (x_11:Tx1) (x_38:Int) (c_81:Tx8) (c_94:Tx7) (x_95:Int):Option (Out (Tx8×Tx7×Int) (Sum (Tx8×Tx7) (Bool))):=
  if ((x_95 == 0)||(decide (x_95<(len value_3))))=true then
    (sub value_3 x_95 (imin (w64 (x_95+(imax x_38 (quop .i64 (w64 ((len value_3)+14)) 15)))) (len value_3))).bind fun l_124=>
    (q8 F c_81 (Tx7.mk 22 0 x_11.Handle 0 (Tx0.mk 0 0) x_95 0 0 false l_124 [])).bind fun x_1245=>
    q56 F value_3 x_38 x_95 x_1245.1 x_1245.2.1 x_1245.2.2
  else
    some (.done (.inl (c_81,c_94)))
def q1t (F:Nat) (db_1:(List Tx1)) (value_3:(List Int)) (mtu_4:Int) (long_5:Bool) (x_11:Tx1) (z_12:Bool):Option (Bool):=
  if z_12=true then
    (q12 F).bind fun x_13=>
    some x_13
  else
    (q1k F db_1 mtu_4 2 false 2 []).bind fun x_14=>
    (q8 F x_14.1 (Tx7.mk 2 0 0 0 (Tx0.mk 0 0) 0 517 0 false [] [])).bind fun x_15=>
    if (((((x_14.2 != 0)||(!x_15.2.2))||(x_15.2.1.Kind != 3))||(x_15.2.1.MTU != mtu_4))||(x_15.1.MTU != mtu_4))=true then
      some false
    else
      if long_5=true then
        (qr F 22 mtu_4).bind fun x_38=>
        (iter (fun s=>q1s F value_3 x_11 x_38 s.1 s.2.1 s.2.2) F (x_15.1,x_15.2.1,0)).bind fun o=>
        match o with
        | .inl u=>q3q F value_3 x_11 u.1 u.2
        | .inr u=>some u
      else
        (q8 F x_15.1 (Tx7.mk 18 0 x_11.Handle 0 (Tx0.mk 0 0) 0 0 0 false value_3 [])).bind fun x_1965=>
        q32 F value_3 x_11 x_1965.1 (x_1965.2.2&&(x_1965.2.1.Kind == 19))
def q25 (F:Nat) (db_1:(List Tx1)) (at_2:Int) (value_3:(List Int)) (mtu_4:Int) (long_5:Bool):Option (Bool):=
  (q26 F db_1).bind fun x_6=>
  (if (((((!x_6)||((len db_1) == 0))||(decide ((len value_3) > 512)))||(decide (mtu_4<23)))||(decide (mtu_4 > 517)))=true then
    some (true)
  else
    (qn F db_1).bind fun x_1973=>
    some ((x_1973 != 0))).bind fun z_8=>
  if z_8=true then
    (q12 F).bind fun x_9=>
    some x_9
  else
    (irem (w64 at_2) (len db_1)).bind fun x_10=>
    (idx db_1 x_10).bind fun x_11=>
    if ((iand .i64 x_11.Perms 3) != 3)=true then
      q1t F db_1 value_3 mtu_4 long_5 x_11 true
    else
      (qb F 11050).bind fun x_1969=>
      if ((x_11.fT.High == x_1969.High)&&(x_11.fT.Low == x_1969.Low))=true then
        q1t F db_1 value_3 mtu_4 long_5 x_11 true
      else
        (qb F 10498).bind fun x_1971=>
        q1t F db_1 value_3 mtu_4 long_5 x_11 ((x_11.fT.High == x_1971.High)&&(x_11.fT.Low == x_1971.Low))
end V
end Go.Proofs.YtoahakdkgefgiaaGreat
