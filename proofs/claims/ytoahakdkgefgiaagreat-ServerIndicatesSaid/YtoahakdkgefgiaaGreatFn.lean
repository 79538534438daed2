/- Pure twins of the Go functions, wn by program. -/
import Derived.Test.YtoahakdkgefgiaaGreatPure
namespace Go.Proofs.YtoahakdkgefgiaaGreat
namespace V
structure Tx0 where
  High:Int
  Low:Int
structure Tx1 where
  Handle:Int
  fT:Tx0
  Perms:Int
  Value:(List Int)
structure Tx2 where
  Handle:Int
  Bits:Int
structure Tx3 where
  Handle:Int
  Last:Int
  fT:Tx0
  Value:(List Int)
structure Tx4 where
  Kind:Int
  Asked:Int
  Handle:Int
  Last:Int
  fT:Tx0
  Offset:Int
  MTU:Int
  Code:Int
  Commit:Bool
  Value:(List Int)
  List:(List Tx3)
structure Tx5 where
  Call:Int
  PDU:Tx4
  Handle:Int
  Value:(List Int)
  Other:Int
  Level:Int
  Pause:Int
structure Tx6 where
  DBs:((List Tx1)×(List Tx1))
  Max:Int
  Level:Int
  Aware:Int
  Robust:Bool
  Subs:(List Tx2)
  Steps:(List Tx5)
structure Tx7 where
  fT:Tx0
  Props:Int
  Perms:Int
  Value:(List Int)
  More:(List Tx1)
structure Tx8 where
  fT:Tx0
  Primary:Bool
  Chars:(List Tx7)
structure Tx9 where
  Handle:Int
  Offset:Int
  Value:(List Int)
structure Txa where
  DB:(List Tx1)
  MTU:Int
  Max:Int
  Level:Int
  Queue:(List Tx9)
  Aware:Int
  Robust:Bool
  Subs:(List Tx2)
  Out:(List Tx4)
  Wait:Bool
  Since:Int
structure Txb where
  char:Bool
  config:Bool
structure Txc where
  Sv:Txa
  wn:(List Int)
structure Txd where
  Size:Int
  Value:Int
structure Txe where
  items:(List Tx3)
  room:Int
structure Txf where
  Known:Bool
  Asked:Bool
  Handle:Bool
  Last:Bool
  fT:Bool
  Offset:Bool
  MTU:Bool
  Code:Bool
  Commit:Bool
  Value:Bool
  List:Bool
def q6m (_:Nat) (db_1:(List Tx1)) (x_2:Int):Option (Bool):=
  some ((decide ((len db_1)≤80))&&(decide (x_2≤4096)))
def q25 (_:Nat) (db_1:(List Tx1)) (x_3:Int) (x_4:Int):Option (Out (Int×Int) (Sum (Int) (Bool))):=
  if ((decide (x_4<(len db_1)))&&(decide (x_4<80)))=true then
    (idx db_1 x_4).bind fun x_5=>
    if (decide ((len x_5.Value) > 4096))=true then
      some (.done (.inr false))
    else
      (idx db_1 x_4).bind fun x_6=>
      some (.next (w64 (x_3+(len x_6.Value)),w64 (x_4+1)))
  else
    some (.done (.inl (x_3)))
def q1b (F:Nat) (db_1:(List Tx1)):Option (Bool):=
  (iter (fun s=>q25 F db_1 s.1 s.2) F (0,0)).bind fun o=>
  match o with
  | .inl u=>q6m F db_1 u
  | .inr u=>some u
def q52 (F:Nat) (x_1:Tx6) (x_2:Int):Option (Bool):=
  (q1b F x_1.DBs.1).bind fun x_3=>
  (if x_3=true then
    (q1b F x_1.DBs.2).bind fun x_7=>
    some (x_7)
  else
    some (false)).bind fun z_5=>
  some (((z_5&&(decide ((len x_1.Subs)≤100)))&&(decide ((len x_1.Steps)≤100)))&&(decide (x_2≤8192)))
def q26 (_:Nat) (x_1:Tx6) (x_8:Int) (x_9:Int):Option (Out (Int×Int) (Sum (Int) (Bool))):=
  if ((decide (x_9<(len x_1.Steps)))&&(decide (x_9<100)))=true then
    (idx x_1.Steps x_9).bind fun x_10=>
    (if (decide ((len x_10.Value) > 4096))=true then
      some (true)
    else
      (idx x_1.Steps x_9).bind fun x_22=>
      some (decide ((len x_22.PDU.Value) > 4096))).bind fun z_12=>
    (if z_12=true then
      some (true)
    else
      (idx x_1.Steps x_9).bind fun x_20=>
      some (decide ((len x_20.PDU.List) > 100))).bind fun z_14=>
    if z_14=true then
      some (.done (.inr false))
    else
      (idx x_1.Steps x_9).bind fun x_15=>
      (idx x_1.Steps x_9).bind fun x_16=>
      some (.next (w64 (x_8+(w64 ((len x_15.Value)+(len x_16.PDU.Value)))),w64 (x_9+1)))
  else
    some (.done (.inl (x_8)))
def q2v (F:Nat) (x_1:Tx6):Option (Bool):=
  (iter (fun s=>q26 F x_1 s.1 s.2) F (0,0)).bind fun o=>
  match o with
  | .inl u=>q52 F x_1 u
  | .inr u=>some u
def qa (_:Nat) (n_1:Int):Option (Tx0):=
  some (Tx0.mk (wu64 ((wu64 ((wu64 n_1) * 4294967296))+4096)) 9223372588214596859)
def q6n (_:Nat) (z_3:Bool):Option (Bool):=
  some z_3
def qk (F:Nat) (t_1:Tx0) (n_2:Int):Option (Bool):=
  (qa F n_2).bind fun x_6=>
  q6n F ((t_1.High == x_6.High)&&(t_1.Low == x_6.Low))
def q4e (F:Nat) (t_1:Tx0):Option (Bool):=
  (qk F t_1 10240).bind fun x_2=>
  (if x_2=true then
    some (true)
  else
    (qk F t_1 10241).bind fun x_14=>
    some (x_14)).bind fun z_4=>
  (if z_4=true then
    some (true)
  else
    (qk F t_1 10242).bind fun x_12=>
    some (x_12)).bind fun z_6=>
  (if z_6=true then
    some (true)
  else
    (qk F t_1 10243).bind fun x_10=>
    some (x_10)).bind fun z_8=>
  some z_8
def q4f (F:Nat) (t_1:Tx0):Option (Bool):=
  (q4e F t_1).bind fun x_2=>
  (if x_2=true then
    some (true)
  else
    (qk F t_1 10498).bind fun x_6=>
    some (x_6)).bind fun z_4=>
  some z_4
def q2w (F:Nat) (t_1:Tx0) (props_2:Int) (perms_3:Int) (value_4:(List Int)):Option (Int):=
  (q4f F t_1).bind fun x_5=>
  if x_5=true then
    some 1
  else
    if ((((decide (props_2<0))||(decide (props_2 > 255)))||(decide (perms_3<0)))||(decide (perms_3 > 15)))=true then
      some 5
    else
      if (decide ((len value_4) > 512))=true then
        some 4
      else
        some 0
def q6o (_:Nat) (x_2:Int):Option (Int×Int):=
  some (x_2,0)
def q6p (_:Nat) (x_4:Int) (x_5:Int):Option (Out (Int×Int) (Sum (Int) (Int×Int))):=
  some (.next (x_5,w64 (x_4+1)))
def q6q (_:Nat) (x_7:Int) (x_9:Int):Option (Out (Int×Int) (Sum (Int) (Int×Int))):=
  some (.next (x_9,w64 (x_7+1)))
def q6r (_:Nat) (x_14:Int) (x_15:Int):Option (Out (Int) (Sum (Int) (Int×Int))):=
  if (x_15 != 0)=true then
    some (.done (.inr (0,x_15)))
  else
    some (.next (w64 (x_14+1)))
def q53 (F:Nat) (x_11:Tx7) (x_13:Int) (x_14:Int):Option (Out (Int) (Sum (Int) (Int×Int))):=
  if (decide (x_14<(len x_11.More)))=true then
    (idx x_11.More x_14).bind fun x_16=>
    (idx x_11.More x_14).bind fun x_17=>
    (idx x_11.More x_14).bind fun x_18=>
    (q2w F x_16.fT 0 x_17.Perms x_18.Value).bind fun x_21=>
    q6r F x_14 x_21
  else
    some (.done (.inl (x_13)))
def q54 (F:Nat) (x_7:Int) (x_11:Tx7) (x_13:Int):Option (Out (Int×Int) (Sum (Int) (Int×Int))):=
  (iter (fun s=>q53 F x_11 x_13 s) F (0)).bind fun o=>
  match o with
  | .inl u=>q6q F x_7 u
  | .inr u=>some (.done (.inr u))
def q55 (F:Nat) (l_1:(List Tx8)) (x_4:Int) (x_6:Int) (x_7:Int):Option (Out (Int×Int) (Sum (Int) (Int×Int))):=
  (idx l_1 x_4).bind fun x_8=>
  if (decide (x_7<(len x_8.Chars)))=true then
    (idx l_1 x_4).bind fun x_10=>
    (idx x_10.Chars x_7).bind fun x_11=>
    (q2w F x_11.fT x_11.Props x_11.Perms x_11.Value).bind fun x_12=>
    if (x_12 != 0)=true then
      some (.done (.inr (0,x_12)))
    else
      if ((iand .i64 x_11.Props 48) != 0)=true then
        q54 F x_7 x_11 (w64 ((w64 ((w64 (x_6+2))+(len x_11.More)))+1))
      else
        q54 F x_7 x_11 (w64 ((w64 (x_6+2))+(len x_11.More)))
  else
    some (.done (.inl (x_6)))
def q56 (F:Nat) (l_1:(List Tx8)) (x_3:Int) (x_4:Int):Option (Out (Int×Int) (Sum (Int) (Int×Int))):=
  if (decide (x_4<(len l_1)))=true then
    (iter (fun s=>q55 F l_1 x_4 s.1 s.2) F (w64 (x_3+1),0)).bind fun o=>
    match o with
    | .inl u=>q6p F x_4 u
    | .inr u=>some (.done (.inr u))
  else
    some (.done (.inl (x_3)))
def q4g (F:Nat) (l_1:(List Tx8)):Option (Int×Int):=
  (iter (fun s=>q56 F l_1 s.1 s.2) F (0,0)).bind fun o=>
  match o with
  | .inl u=>q6o F u
  | .inr u=>some u
def q4h (_:Nat) (u_1:Tx0) (z_2:Bool):Option (Int×Bool):=
  if z_2=true then
    some (0,false)
  else
    some (wu16 (quop .u64 u_1.High 4294967296),true)
def q2x (F:Nat) (u_1:Tx0):Option (Int×Bool):=
  if (decide ((quop .u64 u_1.High 4294967296) > 65535))=true then
    q4h F u_1 true
  else
    (qa F (wu16 (quop .u64 u_1.High 4294967296))).bind fun x_6=>
    q4h F u_1 (!((x_6.High == u_1.High)&&(x_6.Low == u_1.Low)))
def q57 (_:Nat) (l_3:(List Int)):Option ((List Int)):=
  some l_3
def q1c (_:Nat) (size_2:Int) (x_4:Int) (l_5:(List Int)) (x_6:Int):Option (Out (Int×(List Int)×Int) ((List Int))):=
  if (decide (x_6<size_2))=true then
    (app 1 l_5 [wu8 (remp x_4 256)]).bind fun l_7=>
    some (.next ((quop .u64 x_4 256),l_7,w64 (x_6+1)))
  else
    some (.done (l_5))
def qb (F:Nat) (n_1:Int) (size_2:Int):Option ((List Int)):=
  (iter (fun s=>q1c F size_2 s.1 s.2.1 s.2.2) F (n_1,[],0)).bind fun o=>
  q57 F o
def q6s (_:Nat) (l_4:(List Int)):Option ((List Int)):=
  some l_4
def qt (F:Nat) (u_1:Tx0):Option ((List Int)):=
  (q2x F u_1).bind fun x_2=>
  if x_2.2=true then
    (qb F (wu64 x_2.1) 2).bind fun x_3=>
    some x_3
  else
    (qb F u_1.Low 8).bind fun x_7=>
    (qb F u_1.High 8).bind fun x_8=>
    (app 1 x_7 x_8).bind fun l_9=>
    q6s F l_9
def q6t (_:Nat) (l_6:(List Tx1)):Option ((List Tx1)):=
  some l_6
def ql (F:Nat) (db_1:(List Tx1)) (first_2:Int) (t_3:Tx0) (perms_4:Int) (value_5:(List Int)):Option ((List Tx1)):=
  (app 1 ([]:(List Int)) value_5).bind fun l_809=>
  (app 56 db_1 [(Tx1.mk (wu16 (first_2+(wu16 (len db_1)))) t_3 perms_4 l_809)]).bind fun l_1049=>
  q6t F l_1049
def q6u (_:Nat) (l_8:(List Tx1)):Option ((List Tx1)):=
  some l_8
def q58 (F:Nat) (first_2:Int) (c_3:Tx7) (l_9:(List Tx1)) (x_10:Int):Option (Out ((List Tx1)×Int) ((List Tx1))):=
  if (decide (x_10<(len c_3.More)))=true then
    (idx c_3.More x_10).bind fun x_11=>
    (idx c_3.More x_10).bind fun x_12=>
    (idx c_3.More x_10).bind fun x_13=>
    (ql F l_9 first_2 x_11.fT x_12.Perms x_13.Value).bind fun x_16=>
    some (.next (x_16,w64 (x_10+1)))
  else
    some (.done (l_9))
def q59 (F:Nat) (first_2:Int) (c_3:Tx7) (l_7:(List Tx1)):Option ((List Tx1)):=
  (iter (fun s=>q58 F first_2 c_3 s.1 s.2) F (l_7,0)).bind fun o=>
  q6u F o
def q6v (F:Nat) (first_2:Int) (c_3:Tx7) (l_5:(List Tx1)):Option ((List Tx1)):=
  (ql F l_5 first_2 c_3.fT c_3.Perms c_3.Value).bind fun x_6=>
  if ((iand .i64 c_3.Props 48) != 0)=true then
    (qa F 10498).bind fun x_17=>
    (ql F x_6 first_2 x_17 3 [0,0]).bind fun x_18=>
    q59 F first_2 c_3 x_18
  else
    q59 F first_2 c_3 x_6
def q6w (F:Nat) (db_1:(List Tx1)) (first_2:Int) (c_3:Tx7) (l_4:(List Int)):Option ((List Tx1)):=
  (qa F 10243).bind fun x_21=>
  (qt F c_3.fT).bind fun x_22=>
  (app 1 l_4 x_22).bind fun l_23=>
  (ql F db_1 first_2 x_21 1 l_23).bind fun x_24=>
  q6v F first_2 c_3 x_24
def q4i (F:Nat) (db_1:(List Tx1)) (first_2:Int) (c_3:Tx7):Option ((List Tx1)):=
  (qb F (wu64 (w64 ((w64 ((w64 first_2)+(len db_1)))+1))) 2).bind fun x_907=>
  (app 1 [wu8 c_3.Props] x_907).bind fun l_987=>
  q6w F db_1 first_2 c_3 l_987
def q6x (_:Nat) (l_4:(List Tx1)):Option ((List Tx1)×Int):=
  some (l_4,0)
def q6y (_:Nat) (x_6:Int) (l_7:(List Tx1)):Option (Out ((List Tx1)×Int) ((List Tx1))):=
  some (.next (l_7,w64 (x_6+1)))
def q5a (F:Nat) (l_1:(List Tx8)) (first_2:Int) (x_6:Int) (l_10:(List Tx1)) (x_11:Int):Option (Out ((List Tx1)×Int) ((List Tx1))):=
  (idx l_1 x_6).bind fun x_12=>
  if (decide (x_11<(len x_12.Chars)))=true then
    (idx l_1 x_6).bind fun x_13=>
    (idx x_13.Chars x_11).bind fun x_14=>
    (q4i F l_10 first_2 x_14).bind fun x_15=>
    some (.next (x_15,w64 (x_11+1)))
  else
    some (.done (l_10))
def q6z (F:Nat) (l_1:(List Tx8)) (first_2:Int) (x_6:Int) (l_9:(List Tx1)):Option (Out ((List Tx1)×Int) ((List Tx1))):=
  (iter (fun s=>q5a F l_1 first_2 x_6 s.1 s.2) F (l_9,0)).bind fun o=>
  q6y F x_6 o
def q5b (F:Nat) (l_1:(List Tx8)) (first_2:Int) (l_5:(List Tx1)) (x_6:Int) (x_8:Int):Option (Out ((List Tx1)×Int) ((List Tx1))):=
  (idx l_1 x_6).bind fun x_16=>
  (qa F x_8).bind fun x_19=>
  (qt F x_16.fT).bind fun x_20=>
  (ql F l_5 first_2 x_19 1 x_20).bind fun x_21=>
  q6z F l_1 first_2 x_6 x_21
def q5c (F:Nat) (l_1:(List Tx8)) (first_2:Int) (l_5:(List Tx1)) (x_6:Int):Option (Out ((List Tx1)×Int) ((List Tx1))):=
  if (decide (x_6<(len l_1)))=true then
    (idx l_1 x_6).bind fun x_22=>
    if x_22.Primary=true then
      q5b F l_1 first_2 l_5 x_6 10240
    else
      q5b F l_1 first_2 l_5 x_6 10241
  else
    some (.done (l_5))
def q4j (F:Nat) (l_1:(List Tx8)) (first_2:Int):Option ((List Tx1)×Int):=
  if (first_2 == 0)=true then
    some ([],5)
  else
    (q4g F l_1).bind fun x_3=>
    if (x_3.2 != 0)=true then
      some ([],x_3.2)
    else
      if (decide (x_3.1 > 1000))=true then
        some ([],4)
      else
        if (decide ((w64 ((w64 ((w64 first_2)+x_3.1)) - 1)) > 65535))=true then
          some ([],8)
        else
          (iter (fun s=>q5c F l_1 first_2 s.1 s.2) F ([],0)).bind fun o=>
          q6x F o
def q27 (F:Nat) (t_1:Int):Option ((List Tx1)):=
  (qa F 6159).bind fun x_2=>
  (qa F t_1).bind fun x_3=>
  (q4j F [(Tx8.mk x_2 true [(Tx7.mk x_3 2 1 [50] [])])] 1).bind fun x_4=>
  some x_4.1
def q5d (_:Nat) (u_1:Tx0):Option ((Int×Int×Int×Int×Int×Int×Int×Int×Int×Int×Int×Int×Int×Int×Int×Int)):=
  some (wu8 (shrp u_1.Low 0),wu8 (shrp u_1.Low 8),wu8 (shrp u_1.Low 16),wu8 (shrp u_1.Low 24),wu8 (shrp u_1.Low 32),wu8 (shrp u_1.Low 40),wu8 (shrp u_1.Low 48),wu8 (shrp u_1.Low 56),wu8 (shrp u_1.High 0),wu8 (shrp u_1.High 8),wu8 (shrp u_1.High 16),wu8 (shrp u_1.High 24),wu8 (shrp u_1.High 32),wu8 (shrp u_1.High 40),wu8 (shrp u_1.High 48),wu8 (shrp u_1.High 56))
def q5e (F:Nat) (u_1:Tx0):Option ((Int×Int×Int×Int×Int×Int×Int×Int×Int×Int×Int×Int×Int×Int×Int×Int)):=
  q5d F u_1
def q5f (F:Nat) (u_1:Tx0):Option ((Int×Int×Int×Int×Int×Int×Int×Int×Int×Int×Int×Int×Int×Int×Int×Int)):=
  q5e F u_1
def q5g (F:Nat) (u_1:Tx0):Option ((Int×Int×Int×Int×Int×Int×Int×Int×Int×Int×Int×Int×Int×Int×Int×Int)):=
  q5f F u_1
def q5h (F:Nat) (u_1:Tx0):Option ((Int×Int×Int×Int×Int×Int×Int×Int×Int×Int×Int×Int×Int×Int×Int×Int)):=
  q5g F u_1
def q5i (F:Nat) (u_1:Tx0):Option ((Int×Int×Int×Int×Int×Int×Int×Int×Int×Int×Int×Int×Int×Int×Int×Int)):=
  q5h F u_1
def q5j (F:Nat) (u_1:Tx0):Option ((Int×Int×Int×Int×Int×Int×Int×Int×Int×Int×Int×Int×Int×Int×Int×Int)):=
  q5i F u_1
def q5k (F:Nat) (u_1:Tx0):Option ((Int×Int×Int×Int×Int×Int×Int×Int×Int×Int×Int×Int×Int×Int×Int×Int)):=
  q5j F u_1
def q5l (F:Nat) (u_1:Tx0):Option ((Int×Int×Int×Int×Int×Int×Int×Int×Int×Int×Int×Int×Int×Int×Int×Int)):=
  q5k F u_1
def qq (F:Nat) (u_1:Tx0):Option ((Int×Int×Int×Int×Int×Int×Int×Int×Int×Int×Int×Int×Int×Int×Int×Int)):=
  q5l F u_1
def q5m (_:Nat) (x_2:(Int×Int×Int×Int×Int×Int×Int×Int×Int×Int×Int×Int×Int×Int×Int×Int)) (z_3:Bool):Option (Int×Bool):=
  if z_3=true then
    some (0,false)
  else
    some (ior .u16 (wu16 x_2.2.2.2.2.2.2.2.2.2.2.2.2.1) (shlp .u16 (wu16 x_2.2.2.2.2.2.2.2.2.2.2.2.2.2.1) 8),true)
def qu (F:Nat) (u_1:Tx0):Option (Int×Bool):=
  (qq F u_1).bind fun x_2=>
  (qq F (Tx0.mk 4096 9223372588214596859)).bind fun x_6=>
  q5m F x_2 (!((x_2.1 == x_6.1)&&((x_2.2.1 == x_6.2.1)&&((x_2.2.2.1 == x_6.2.2.1)&&((x_2.2.2.2.1 == x_6.2.2.2.1)&&((x_2.2.2.2.2.1 == x_6.2.2.2.2.1)&&((x_2.2.2.2.2.2.1 == x_6.2.2.2.2.2.1)&&((x_2.2.2.2.2.2.2.1 == x_6.2.2.2.2.2.2.1)&&((x_2.2.2.2.2.2.2.2.1 == x_6.2.2.2.2.2.2.2.1)&&((x_2.2.2.2.2.2.2.2.2.1 == x_6.2.2.2.2.2.2.2.2.1)&&((x_2.2.2.2.2.2.2.2.2.2.1 == x_6.2.2.2.2.2.2.2.2.2.1)&&((x_2.2.2.2.2.2.2.2.2.2.2.1 == x_6.2.2.2.2.2.2.2.2.2.2.1)&&((x_2.2.2.2.2.2.2.2.2.2.2.2.1 == x_6.2.2.2.2.2.2.2.2.2.2.2.1)&&((0 == x_6.2.2.2.2.2.2.2.2.2.2.2.2.1)&&((0 == x_6.2.2.2.2.2.2.2.2.2.2.2.2.2.1)&&((x_2.2.2.2.2.2.2.2.2.2.2.2.2.2.2.1 == x_6.2.2.2.2.2.2.2.2.2.2.2.2.2.2.1)&&(x_2.2.2.2.2.2.2.2.2.2.2.2.2.2.2.2 == x_6.2.2.2.2.2.2.2.2.2.2.2.2.2.2.2)))))))))))))))))
def q70 (_:Nat):Option (Int):=
  some (-1)
def q1d (_:Nat) (s_1:(List Int)) (v_2:Int) (x_3:Int):Option (Out (Int) (Sum (Unit) (Int))):=
  if (decide (x_3<(len s_1)))=true then
    (idx s_1 x_3).bind fun x_4=>
    if (v_2 == x_4)=true then
      some (.done (.inr x_3))
    else
      some (.next (w64 (x_3+1)))
  else
    some (.done (.inl ()))
def q2y (F:Nat) (s_1:(List Int)) (v_2:Int):Option (Int):=
  (iter (fun s=>q1d F s_1 v_2 s) F (0)).bind fun o=>
  match o with
  | .inl _=>q70 F
  | .inr u=>some u
def q1e (F:Nat) (s_1:(List Int)) (v_2:Int):Option (Bool):=
  (q2y F s_1 v_2).bind fun x_3=>
  some (decide (x_3≥0))
def q9 (F:Nat) (u_1:Tx0) (numbers_2:(List Int)):Option (Bool):=
  (qu F u_1).bind fun x_3=>
  (if x_3.2=true then
    (q1e F numbers_2 x_3.1).bind fun x_7=>
    some (x_7)
  else
    some (false)).bind fun z_5=>
  some z_5
def qd (F:Nat) (u_1:Tx0):Option (Bool):=
  (q9 F u_1 [10240,10241]).bind fun x_2=>
  some x_2
def qw (F:Nat) (u_1:Tx0):Option (Bool):=
  (qd F u_1).bind fun x_2=>
  (if x_2=true then
    some (true)
  else
    (q9 F u_1 [10242,10243]).bind fun x_6=>
    some (x_6)).bind fun z_4=>
  some z_4
def q1f (_:Nat) (n_1:Int):Option (Tx0):=
  some (Tx0.mk (ior .u64 (shlp .u64 (wu64 n_1) 32) 4096) 9223372588214596859)
def q71 (_:Nat) (c_4:Tx0):Option (Tx0×Int):=
  some (c_4,0)
def q5n (F:Nat) (c_12:Tx0):Option (Tx0×Int):=
  (qu F c_12).bind fun x_13=>
  if x_13.2=true then
    some ((Tx0.mk 0 0),2)
  else
    some (c_12,0)
def q5o (_:Nat) (b_1:(List Int)) (c_16:Tx0) (x_17:Int) (x_18:Int):Option (Out (Tx0×Int) (Tx0)):=
  (idx b_1 (w64 (8+x_17))).bind fun x_19=>
  (ishl .u64 (wu64 x_19) (w64 (8 * x_17))).bind fun x_22=>
  some (.next ((Tx0.mk (ior .u64 c_16.High x_22) x_18),w64 (x_17+1)))
def q1g (F:Nat) (b_1:(List Int)) (c_16:Tx0) (x_17:Int):Option (Out (Tx0×Int) (Tx0)):=
  if (decide (x_17<8))=true then
    (idx b_1 x_17).bind fun x_23=>
    (ishl .u64 (wu64 x_23) (w64 (8 * x_17))).bind fun x_26=>
    q5o F b_1 c_16 x_17 (ior .u64 c_16.Low x_26)
  else
    some (.done (c_16))
def q1h (F:Nat) (b_1:(List Int)):Option (Tx0×Int):=
  if ((len b_1) == 2)=true then
    (idx b_1 0).bind fun x_5=>
    (idx b_1 1).bind fun x_6=>
    (q1f F (ior .u16 (wu16 x_5) (shlp .u16 (wu16 x_6) 8))).bind fun x_9=>
    q71 F x_9
  else
    if (decide ((len b_1)<16))=true then
      some ((Tx0.mk 0 0),3)
    else
      if (decide ((len b_1) > 16))=true then
        some ((Tx0.mk 0 0),2)
      else
        (iter (fun s=>q1g F b_1 s.1 s.2) F ((Tx0.mk 0 0),0)).bind fun o=>
        q5n F o
def q5p (_:Nat) (x_3:Tx0×Int) (x_4:Int) (x_5:Int):Option (Int×Int×Tx0×Bool):=
  some (x_4,x_5,x_3.1,true)
def q2z (F:Nat) (b_1:(List Int)):Option (Int×Int×Tx0×Bool):=
  if (decide ((len b_1)<3))=true then
    some (0,0,(Tx0.mk 0 0),false)
  else
    (sub b_1 3 (len b_1)).bind fun l_2=>
    (q1h F l_2).bind fun x_3=>
    if (x_3.2 != 0)=true then
      some (0,0,(Tx0.mk 0 0),false)
    else
      (idx b_1 0).bind fun x_6=>
      (idx b_1 1).bind fun x_7=>
      (idx b_1 2).bind fun x_8=>
      q5p F x_3 (w64 x_6) (ior .u16 (wu16 x_7) (shlp .u16 (wu16 x_8) 8))
def q1i (F:Nat) (u_1:Tx0):Option (Bool):=
  (qw F u_1).bind fun x_2=>
  (if x_2=true then
    some (true)
  else
    (q9 F u_1 [10498]).bind fun x_6=>
    some (x_6)).bind fun z_4=>
  some z_4
def q28 (_:Nat) (z_10:Bool):Option (Bool):=
  some z_10
def q3s (F:Nat) (db_1:(List Tx1)) (i_2:Int) (at_3:Txb) (x_4:Tx1) (z_5:Bool):Option (Bool):=
  if z_5=true then
    some true
  else
    (qd F x_4.fT).bind fun x_6=>
    if x_6=true then
      (q1h F x_4.Value).bind fun x_7=>
      some (x_7.2 != 0)
    else
      (q9 F x_4.fT [10243]).bind fun x_8=>
      if x_8=true then
        (q2z F x_4.Value).bind fun x_9=>
        if (!x_9.2.2.2)=true then
          if (true||(decide ((w64 (i_2+1))≥(len db_1))))=true then
            q28 F true
          else
            (idx db_1 (w64 (i_2+1))).bind fun x_15=>
            if (x_15.Handle != x_9.2.1)=true then
              q28 F true
            else
              (idx db_1 (w64 (i_2+1))).bind fun x_17=>
              q28 F (!((x_17.fT.High == x_9.2.2.1.High)&&(x_17.fT.Low == x_9.2.2.1.Low)))
        else
          (q1i F x_9.2.2.1).bind fun x_18=>
          if (x_18||(decide ((w64 (i_2+1))≥(len db_1))))=true then
            q28 F true
          else
            (idx db_1 (w64 (i_2+1))).bind fun x_20=>
            if (x_20.Handle != x_9.2.1)=true then
              q28 F true
            else
              (idx db_1 (w64 (i_2+1))).bind fun x_22=>
              q28 F (!((x_22.fT.High == x_9.2.2.1.High)&&(x_22.fT.Low == x_9.2.2.1.Low)))
      else
        (q9 F x_4.fT [10498]).bind fun x_23=>
        if x_23=true then
          some ((((len x_4.Value) != 2)||(!at_3.char))||at_3.config)
        else
          some false
def q30 (F:Nat) (db_1:(List Tx1)) (i_2:Int) (at_3:Txb):Option (Bool):=
  (idx db_1 i_2).bind fun x_4=>
  (if (i_2 == 0)=true then
    (qd F x_4.fT).bind fun x_28=>
    some ((!x_28))
  else
    some (false)).bind fun z_25=>
  if z_25=true then
    q3s F db_1 i_2 at_3 x_4 z_25
  else
    (qw F x_4.fT).bind fun x_26=>
    q3s F db_1 i_2 at_3 x_4 (x_26&&((iand .i64 x_4.Perms 2) != 0))
def q72 (_:Nat):Option (Int):=
  some 0
def q31 (_:Nat) (x_6:Int) (x_7:Int) (c_10:Txb):Option (Out (Int×Txb×Int) (Sum (Unit) (Int))):=
  some (.next (x_7,c_10,w64 (x_6+1)))
def q29 (F:Nat) (db_1:(List Tx1)) (x_2:Int) (c_5:Txb) (x_6:Int):Option (Out (Int×Txb×Int) (Sum (Unit) (Int))):=
  if (decide (x_6<(len db_1)))=true then
    (idx db_1 x_6).bind fun x_11=>
    if (decide (x_11.Handle≤x_2))=true then
      some (.done (.inr 13))
    else
      if ((decide (x_11.Perms<0))||(decide (x_11.Perms > 15)))=true then
        some (.done (.inr 5))
      else
        if (decide ((len x_11.Value) > 512))=true then
          some (.done (.inr 4))
        else
          (q30 F db_1 x_6 c_5).bind fun x_12=>
          if x_12=true then
            some (.done (.inr 1))
          else
            (qd F x_11.fT).bind fun x_13=>
            if x_13=true then
              q31 F x_6 x_11.Handle (Txb.mk false false)
            else
              (q9 F x_11.fT [10243]).bind fun x_14=>
              if x_14=true then
                q31 F x_6 x_11.Handle (Txb.mk true false)
              else
                (q9 F x_11.fT [10498]).bind fun x_15=>
                if x_15=true then
                  q31 F x_6 x_11.Handle ({ c_5 with config:=true })
                else
                  q31 F x_6 x_11.Handle c_5
  else
    some (.done (.inl ()))
def q1j (F:Nat) (db_1:(List Tx1)):Option (Int):=
  if (decide ((len db_1) > 1000))=true then
    some 4
  else
    (iter (fun s=>q29 F db_1 s.1 s.2.1 s.2.2) F (0,(Txb.mk false false),0)).bind fun o=>
    match o with
    | .inl _=>q72 F
    | .inr u=>some u
def q73 (_:Nat) (z_3:Bool):Option (Bool):=
  some z_3
def q8 (F:Nat) (u_1:Tx0) (n_2:Int):Option (Bool):=
  (q1f F n_2).bind fun x_6=>
  q73 F ((u_1.High == x_6.High)&&(u_1.Low == x_6.Low))
def q74 (_:Nat):Option (Int×Int×Bool):=
  some (0,0,false)
def q75 (_:Nat) (x_11:Int) (x_12:Int):Option (Out (Int) (Sum (Unit) (Int×Int×Bool))):=
  some (.done (.inr (x_11,x_12,true)))
def q12 (F:Nat) (db_1:(List Tx1)) (x_3:Int):Option (Out (Int) (Sum (Unit) (Int×Int×Bool))):=
  (if (decide (x_3≥0))=true then
    (idx db_1 x_3).bind fun x_22=>
    (q8 F x_22.fT 10240).bind fun x_23=>
    some ((!x_23))
  else
    some (false)).bind fun z_5=>
  (if z_5=true then
    (idx db_1 x_3).bind fun x_19=>
    (q8 F x_19.fT 10241).bind fun x_20=>
    some ((!x_20))
  else
    some (false)).bind fun z_7=>
  if z_7=true then
    (idx db_1 x_3).bind fun x_8=>
    (idx db_1 x_3).bind fun x_9=>
    (q8 F x_9.fT 10243).bind fun x_10=>
    if (x_10&&(decide ((len x_8.Value) > 2)))=true then
      (idx x_8.Value 0).bind fun x_13=>
      (idx x_8.Value 1).bind fun x_14=>
      (idx x_8.Value 2).bind fun x_15=>
      q75 F (w64 x_13) (ior .u16 (wu16 x_14) (shlp .u16 (wu16 x_15) 8))
    else
      some (.next (w64 (x_3 - 1)))
  else
    some (.done (.inl ()))
def qx (F:Nat) (db_1:(List Tx1)) (i_2:Int):Option (Int×Int×Bool):=
  (iter (fun s=>q12 F db_1 s) F (i_2)).bind fun o=>
  match o with
  | .inl _=>q74 F
  | .inr u=>some u
def q4k (_:Nat) (x_3:Int):Option (Int):=
  some x_3
def q4l (F:Nat) (props_1:Int) (x_2:Int):Option (Int):=
  if ((iand .i64 props_1 32) != 0)=true then
    q4k F (ior .i64 x_2 2)
  else
    q4k F x_2
def q1k (F:Nat) (props_1:Int):Option (Int):=
  if ((iand .i64 props_1 16) != 0)=true then
    q4l F props_1 (ior .i64 0 1)
  else
    q4l F props_1 0
def q76 (_:Nat):Option (Int×Bool):=
  some (0,false)
def q4m (_:Nat) (x_3:Int):Option (Out (Int) (Sum (Unit) (Int×Bool))):=
  some (.next (w64 (x_3+1)))
def q2a (F:Nat) (db_1:(List Tx1)) (handle_2:Int) (x_3:Int):Option (Out (Int) (Sum (Unit) (Int×Bool))):=
  if (decide (x_3<(len db_1)))=true then
    (idx db_1 x_3).bind fun x_4=>
    (q8 F x_4.fT 10498).bind fun x_5=>
    if (!x_5)=true then
      q4m F x_3
    else
      (qx F db_1 x_3).bind fun x_6=>
      if (x_6.2.2&&(x_6.2.1 == handle_2))=true then
        (q1k F x_6.1).bind fun x_7=>
        some (.done (.inr (x_7,true)))
      else
        q4m F x_3
  else
    some (.done (.inl ()))
def q1l (F:Nat) (db_1:(List Tx1)) (handle_2:Int):Option (Int×Bool):=
  (iter (fun s=>q2a F db_1 handle_2 s) F (0)).bind fun o=>
  match o with
  | .inl _=>q76 F
  | .inr u=>some u
def q77 (_:Nat) (l_2:(List Int)):Option ((List Int)):=
  some l_2
def qg (_:Nat) (parts_1:(List (List Int))) (l_3:(List Int)) (x_4:Int):Option (Out ((List Int)×Int) ((List Int))):=
  if (decide (x_4<(len parts_1)))=true then
    (idx parts_1 x_4).bind fun x_5=>
    (app 1 l_3 x_5).bind fun l_6=>
    some (.next (l_6,w64 (x_4+1)))
  else
    some (.done (l_3))
def q5 (F:Nat) (parts_1:(List (List Int))):Option ((List Int)):=
  (iter (fun s=>qg F parts_1 s.1 s.2) F ([],0)).bind fun o=>
  q77 F o
def q78 (_:Nat) (l_2:(List Tx1)):Option ((List Tx1)):=
  some l_2
def q1m (F:Nat) (db_1:(List Tx1)) (l_3:(List Tx1)) (x_4:Int):Option (Out ((List Tx1)×Int) ((List Tx1))):=
  if (decide (x_4<(len db_1)))=true then
    (idx db_1 x_4).bind fun x_5=>
    (q5 F [x_5.Value]).bind fun x_6=>
    (app 56 l_3 [{ x_5 with Value:=x_6 }]).bind fun l_7=>
    some (.next (l_7,w64 (x_4+1)))
  else
    some (.done (l_3))
def q6 (F:Nat) (db_1:(List Tx1)):Option ((List Tx1)):=
  (iter (fun s=>q1m F db_1 s.1 s.2) F ([],0)).bind fun o=>
  q78 F o
def qc (_:Nat) (s_1:(List Tx2)):Option ((List Tx2)):=
  (app 16 ([]:(List Tx2)) s_1).bind fun l_2=>
  some l_2
def q5q (F:Nat) (db_1:(List Tx1)) (max_2:Int) (level_3:Int) (robust_4:Bool) (aware_5:Int) (subs_6:(List Tx2)):Option (Txa×Int):=
  (q6 F db_1).bind fun x_8=>
  (qc F subs_6).bind fun x_9=>
  some ((Txa.mk x_8 23 max_2 level_3 [] aware_5 robust_4 x_9 [] false 0),0)
def q2b (F:Nat) (db_1:(List Tx1)) (subs_6:(List Tx2)) (x_10:Int) (x_11:Int):Option (Out (Int×Int) (Sum (Unit) (Txa×Int))):=
  if (decide (x_11<(len subs_6)))=true then
    (idx subs_6 x_11).bind fun x_12=>
    (q1l F db_1 x_12.Handle).bind fun x_13=>
    if ((decide (x_11 > 0))&&(decide (x_12.Handle≤x_10)))=true then
      some (.done (.inr ((Txa.mk [] 0 0 0 [] 0 false [] [] false 0),13)))
    else
      if (!x_13.2)=true then
        some (.done (.inr ((Txa.mk [] 0 0 0 [] 0 false [] [] false 0),6)))
      else
        if ((x_12.Bits == 0)||((iandnot .i64 x_12.Bits x_13.1) != 0))=true then
          some (.done (.inr ((Txa.mk [] 0 0 0 [] 0 false [] [] false 0),5)))
        else
          some (.next (x_12.Handle,w64 (x_11+1)))
  else
    some (.done (.inl ()))
def q1n (F:Nat) (db_1:(List Tx1)) (max_2:Int) (level_3:Int) (robust_4:Bool) (aware_5:Int) (subs_6:(List Tx2)):Option (Txa×Int):=
  (q1j F db_1).bind fun x_7=>
  if (x_7 != 0)=true then
    some ((Txa.mk [] 0 0 0 [] 0 false [] [] false 0),x_7)
  else
    if ((((((decide (max_2<23))||(decide (max_2 > 517)))||(decide (level_3<0)))||(decide (level_3 > 2)))||(decide (aware_5<0)))||(decide (aware_5 > 2)))=true then
      some ((Txa.mk [] 0 0 0 [] 0 false [] [] false 0),5)
    else
      (iter (fun s=>q2b F db_1 subs_6 s.1 s.2) F (0,0)).bind fun o=>
      match o with
      | .inl _=>q5q F db_1 max_2 level_3 robust_4 aware_5 subs_6
      | .inr u=>some u
def q13 (_:Nat) (s_1:(List Tx9)):Option ((List Tx9)):=
  (app 40 ([]:(List Tx9)) s_1).bind fun l_2=>
  some l_2
def q2c (_:Nat) (s_1:(List Tx4)):Option ((List Tx4)):=
  (app 120 ([]:(List Tx4)) s_1).bind fun l_2=>
  some l_2
def q79 (_:Nat) (s_1:Txa) (c_6:Txa) (l_7:(List Tx9)) (l_8:(List Tx4)):Option (Txc):=
  some (Txc.mk ({ s_1 with DB:=c_6.DB,Queue:=l_7,Subs:=c_6.Subs,Out:=l_8 }) [])
def q1o (F:Nat) (c_6:Txa) (l_9:(List Tx4)) (x_10:Int):Option (Out ((List Tx4)×Int) ((List Tx4))):=
  if (decide (x_10<(len c_6.Out)))=true then
    (idx l_9 x_10).bind fun x_11=>
    (q5 F [x_11.Value]).bind fun x_494=>
    (idx l_9 x_10).bind fun _=>
    (idx l_9 x_10).bind fun x_734=>
    (upd l_9 x_10 ({ x_734 with Value:=x_494 })).bind fun l_735=>
    some (.next (l_735,w64 (x_10+1)))
  else
    some (.done (l_9))
def q5r (F:Nat) (s_1:Txa) (c_6:Txa) (l_7:(List Tx9)):Option (Txc):=
  (iter (fun s=>q1o F c_6 s.1 s.2) F (c_6.Out,0)).bind fun o=>
  q79 F s_1 c_6 l_7 o
def q1p (F:Nat) (c_6:Txa) (l_894:(List Tx9)) (x_895:Int):Option (Out ((List Tx9)×Int) ((List Tx9))):=
  if (decide (x_895<(len c_6.Queue)))=true then
    (idx l_894 x_895).bind fun x_896=>
    (q5 F [x_896.Value]).bind fun x_1379=>
    (idx l_894 x_895).bind fun _=>
    (idx l_894 x_895).bind fun x_1619=>
    (upd l_894 x_895 ({ x_1619 with Value:=x_1379 })).bind fun l_1620=>
    some (.next (l_1620,w64 (x_895+1)))
  else
    some (.done (l_894))
def q4n (F:Nat) (s_1:Txa) (c_6:Txa):Option (Txc):=
  (iter (fun s=>q1p F c_6 s.1 s.2) F (c_6.Queue,0)).bind fun o=>
  q5r F s_1 c_6 o
def qm (F:Nat) (s_1:Txa):Option (Txc):=
  (q6 F s_1.DB).bind fun x_1941=>
  (qc F s_1.Subs).bind fun x_2181=>
  (q13 F s_1.Queue).bind fun x_2421=>
  (q2c F s_1.Out).bind fun x_2661=>
  q4n F s_1 ({ s_1 with DB:=x_1941,Queue:=x_2421,Subs:=x_2181,Out:=x_2661 })
def q2d (F:Nat) (_:Txc):Option (Unit):=
  some ()
def q3t (_:Nat) (a_1:Tx1) (p_2:Int):Option (Bool×Int):=
  some ((a_1.Handle == p_2),p_2)
def q7a (_:Nat) (x_3:Int):Option (Int×Int):=
  some ((-1),x_3)
def q1q (F:Nat) (s_1:(List Tx1)) (x_4:Int) (x_5:Int):Option (Out (Int×Int) (Sum (Int) (Int×Int))):=
  if (decide (x_5<(len s_1)))=true then
    (idx s_1 x_5).bind fun x_6=>
    (q3t F x_6 x_4).bind fun x_7=>
    if x_7.1=true then
      some (.done (.inr (x_5,x_7.2)))
    else
      some (.next (x_7.2,w64 (x_5+1)))
  else
    some (.done (.inl (x_4)))
def q3u (F:Nat) (s_1:(List Tx1)) (c_2:Int):Option (Int×Int):=
  (iter (fun s=>q1q F s_1 s.1 s.2) F (c_2,0)).bind fun o=>
  match o with
  | .inl u=>q7a F u
  | .inr u=>some u
def qe (F:Nat) (db_1:(List Tx1)) (handle_2:Int):Option (Int):=
  (q3u F db_1 handle_2).bind fun x_3=>
  some x_3.1
def q1r (_:Nat) (x_1:Txc) (a_2:Tx1) (perm_3:Int) (code_4:Int):Option (Int):=
  if ((iand .i64 a_2.Perms perm_3) == 0)=true then
    some code_4
  else
    if (((iand .i64 a_2.Perms 8) != 0)&&(decide (x_1.Sv.Level<2)))=true then
      some 5
    else
      if (((iand .i64 a_2.Perms 4) != 0)&&(decide (x_1.Sv.Level<1)))=true then
        some 15
      else
        some 0
def q1s (F:Nat) (x_1:Txc) (handle_2:Int):Option (Int×Int×Txc):=
  (qe F x_1.Sv.DB handle_2).bind fun x_3=>
  if (decide (x_3<0))=true then
    some (0,1,x_1)
  else
    (idx x_1.Sv.DB x_3).bind fun x_4=>
    (q1r F x_1 x_4 2 3).bind fun x_5=>
    some (x_3,x_5,x_1)
def q7 (_:Nat) (p_1:Tx4) (handle_2:Int) (code_3:Int):Option (Tx4):=
  some (Tx4.mk 1 p_1.Kind handle_2 0 (Tx0.mk 0 0) 0 0 code_3 false [] [])
def q3v (_:Nat) (s_1:Tx2) (p_2:Int):Option (Bool×Int):=
  some ((s_1.Handle == p_2),p_2)
def q7b (_:Nat) (x_3:Int):Option (Int×Int):=
  some ((-1),x_3)
def q2e (F:Nat) (s_1:(List Tx2)) (x_4:Int) (x_5:Int):Option (Out (Int×Int) (Sum (Int) (Int×Int))):=
  if (decide (x_5<(len s_1)))=true then
    (idx s_1 x_5).bind fun x_6=>
    (q3v F x_6 x_4).bind fun x_7=>
    if x_7.1=true then
      some (.done (.inr (x_5,x_7.2)))
    else
      some (.next (x_7.2,w64 (x_5+1)))
  else
    some (.done (.inl (x_4)))
def q3w (F:Nat) (s_1:(List Tx2)) (c_2:Int):Option (Int×Int):=
  (iter (fun s=>q2e F s_1 s.1 s.2) F (c_2,0)).bind fun o=>
  match o with
  | .inl u=>q7b F u
  | .inr u=>some u
def qn (F:Nat) (x_1:Txc) (handle_2:Int):Option (Int):=
  (q3w F x_1.Sv.Subs handle_2).bind fun x_3=>
  some x_3.1
def q32 (_:Nat) (s_1:(List Tx2)) (i_2:Int) (j_3:Int):Option ((List Tx2)):=
  if 0≤i_2∧i_2≤j_3∧j_3≤(s_1.length:Int) then
    some (s_1.take i_2.toNat++s_1.drop j_3.toNat)
  else
    none
def q33 (_:Nat) (s_1:(List Tx2)) (i_2:Int) (v_3:(List Tx2)):Option ((List Tx2)):=
  if 0≤i_2∧i_2≤(s_1.length:Int)∧v_3.length=1∧(s_1.length+1) * 16≤140737488355328 then
    some (s_1.take i_2.toNat++v_3++s_1.drop i_2.toNat)
  else
    none
def q34 (_:Nat) (x_1:Txc) (l_4:(List Tx2)):Option (Txc):=
  some ({ x_1 with Sv:={ x_1.Sv with Subs:=l_4 } })
def q5s (F:Nat) (x_1:Txc) (handle_2:Int) (n_3:Int) (x_9:Int):Option (Txc):=
  (q33 F x_1.Sv.Subs x_9 [(Tx2.mk handle_2 n_3)]).bind fun x_10=>
  q34 F x_1 x_10
def q2f (_:Nat) (x_1:Txc) (handle_2:Int) (x_11:Int):Option (Out (Int) (Int)):=
  (if (decide (x_11<(len x_1.Sv.Subs)))=true then
    (idx x_1.Sv.Subs x_11).bind fun x_15=>
    some (decide (x_15.Handle<handle_2))
  else
    some (false)).bind fun z_13=>
  if z_13=true then
    some (.next (w64 (x_11+1)))
  else
    some (.done (x_11))
def q35 (F:Nat) (x_1:Txc) (handle_2:Int) (n_3:Int):Option (Txc):=
  (qn F x_1 handle_2).bind fun x_5=>
  if ((decide (x_5≥0))&&(n_3 == 0))=true then
    (q32 F x_1.Sv.Subs x_5 (w64 (x_5+1))).bind fun x_6=>
    q34 F x_1 x_6
  else
    if (decide (x_5≥0))=true then
      (idx x_1.Sv.Subs x_5).bind fun x_7=>
      (upd x_1.Sv.Subs x_5 ({ x_7 with Bits:=n_3 })).bind fun l_8=>
      q34 F x_1 l_8
    else
      if (n_3 != 0)=true then
        (iter (fun s=>q2f F x_1 handle_2 s) F (0)).bind fun o=>
        q5s F x_1 handle_2 n_3 o
      else
        q34 F x_1 x_1.Sv.Subs
def q4o (_:Nat) (p_2:Tx4) (c_16:Txc):Option (Tx4×Txc):=
  some ((Tx4.mk 19 0 0 0 (Tx0.mk 0 0) 0 0 0 false [] []),{ c_16 with wn:=[p_2.Handle] })
def qy (F:Nat) (x_1:Txc) (p_2:Tx4):Option (Tx4×Txc):=
  (q1s F x_1 p_2.Handle).bind fun x_3=>
  if (x_3.2.1 != 0)=true then
    (q7 F p_2 p_2.Handle x_3.2.1).bind fun x_17=>
    some (x_17,x_3.2.2)
  else
    (idx x_3.2.2.Sv.DB x_3.1).bind fun x_18=>
    (q8 F x_18.fT 10498).bind fun x_19=>
    if (x_19&&((len p_2.Value) != 2))=true then
      (q7 F p_2 p_2.Handle 13).bind fun x_20=>
      some (x_20,x_3.2.2)
    else
      (idx x_3.2.2.Sv.DB x_3.1).bind fun x_21=>
      (q8 F x_21.fT 10498).bind fun x_22=>
      if x_22=true then
        (qx F x_3.2.2.Sv.DB x_3.1).bind fun x_23=>
        if x_23.2.2=true then
          (idx p_2.Value 0).bind fun x_24=>
          (idx p_2.Value 1).bind fun x_25=>
          (q1k F x_23.1).bind fun x_28=>
          (q35 F x_3.2.2 x_23.2.1 (iand .i64 (ior .i64 (w64 x_24) (shlp .i64 (w64 x_25) 8)) x_28)).bind fun x_29=>
          q4o F p_2 x_29
        else
          q4o F p_2 x_3.2.2
      else
        (q5 F [p_2.Value]).bind fun x_752=>
        (idx x_3.2.2.Sv.DB x_3.1).bind fun _=>
        (idx x_3.2.2.Sv.DB x_3.1).bind fun x_992=>
        (upd x_3.2.2.Sv.DB x_3.1 ({ x_992 with Value:=x_752 })).bind fun l_993=>
        q4o F p_2 ({ x_3.2.2 with Sv:={ x_3.2.2.Sv with DB:=l_993 } })
def q1t (_:Nat) (phase_1:Int) (hashRead_2:Bool):Option (Int×Bool):=
  if ((phase_1 == 0)&&(!hashRead_2))=true then
    some (1,true)
  else
    some (2,false)
def q1u (F:Nat) (x_1:Txc) (a_2:Tx1):Option (Int):=
  (q1r F x_1 a_2 1 2).bind fun x_3=>
  some x_3
def q3x (_:Nat) (n_1:Int):Option (Bool):=
  some ((decide (n_1≥1))&&(decide (n_1≤8)))
def q7c (_:Nat) (l_2:(List Int)):Option ((List Int)×Int):=
  some (l_2,0)
def q5t (_:Nat) (x_4:Int) (l_5:(List Int)):Option (Out ((List Int)×Int) (Sum ((List Int)) ((List Int)×Int))):=
  some (.next (l_5,w64 (x_4+1)))
def q14 (_:Nat) (x_6:Txd) (l_10:(List Int)) (x_11:Int):Option (Out ((List Int)×Int) ((List Int))):=
  if (decide (x_11<x_6.Size))=true then
    (ishr .u64 x_6.Value (w64 (8 * x_11))).bind fun x_12=>
    (app 1 l_10 [wu8 x_12]).bind fun l_13=>
    some (.next (l_13,w64 (x_11+1)))
  else
    some (.done (l_10))
def q1v (F:Nat) (fields_1:(List Txd)) (l_3:(List Int)) (x_4:Int):Option (Out ((List Int)×Int) (Sum ((List Int)) ((List Int)×Int))):=
  if (decide (x_4<(len fields_1)))=true then
    (idx fields_1 x_4).bind fun x_6=>
    (q3x F x_6.Size).bind fun x_7=>
    (if (!x_7)=true then
      some (true)
    else
      if (decide (x_6.Size<8))=true then
        (ishr .u64 x_6.Value (w64 (8 * x_6.Size))).bind fun x_16=>
        some ((x_16 != 0))
      else
        some (false)).bind fun z_9=>
    if z_9=true then
      some (.done (.inr ([],5)))
    else
      (iter (fun s=>q14 F x_6 s.1 s.2) F (l_3,0)).bind fun o=>
      q5t F x_4 o
  else
    some (.done (.inl (l_3)))
def qz (F:Nat) (fields_1:(List Txd)):Option ((List Int)×Int):=
  (iter (fun s=>q1v F fields_1 s.1 s.2) F ([],0)).bind fun o=>
  match o with
  | .inl u=>q7c F u
  | .inr u=>some u
def qo (F:Nat) (size_1:Int) (n_2:Int):Option ((List Int)):=
  (qz F [(Txd.mk size_1 n_2)]).bind fun x_3=>
  some x_3.1
def q15 (_:Nat) (n_1:Int) (bits_2:Int):Option (Int):=
  if (decide (bits_2≤0))=true then
    some 0
  else
    if (decide (bits_2≥64))=true then
      some n_1
    else
      (ishl .u64 1 bits_2).bind fun x_3=>
      some (iand .u64 n_1 (wu64 (x_3 - 1)))
def q36 (F:Nat) (x_1:Int):Option ((Int×Int)):=
  (q15 F x_1 32).bind fun x_2=>
  some (wu32 (shrp x_1 32),wu32 x_2)
def qj (_:Nat) (x_1:Int) (k_2:Int):Option (Int):=
  (ishl .u64 x_1 (iand .u64 (wu64 k_2) 63)).bind fun x_3=>
  (ishr .u64 x_1 (wu64 (64 - (iand .u64 (wu64 k_2) 63)))).bind fun x_4=>
  some (ior .u64 x_3 x_4)
def q1w (_:Nat) (x_1:Int) (k_2:Int):Option (Int):=
  (ishl .u32 x_1 (iand .u64 (wu64 k_2) 31)).bind fun x_3=>
  (ishr .u32 x_1 (wu64 (32 - (iand .u64 (wu64 k_2) 31)))).bind fun x_4=>
  some (ior .u32 x_3 x_4)
def qh (F:Nat) (k_1:Int) (i_2:Int) (half_3:Int):Option (Int):=
  (qj F k_1 (remp (w64 (11 * (remp i_2 64))) 64)).bind fun x_4=>
  (q15 F x_4 32).bind fun x_5=>
  (q1w F (wu32 (half_3+(wu32 x_5))) 7).bind fun x_6=>
  (q1w F (wu32 x_5) 16).bind fun x_7=>
  some (ixor .u32 (wu32 (x_6 * 2654435761)) x_7)
def q3y (_:Nat) (h_1:(Int×Int)):Option (Int):=
  some (ior .u64 (shlp .u64 (wu64 h_1.1) 32) (wu64 h_1.2))
def q5u (F:Nat) (x_4:Int) (x_5:Int):Option (Int):=
  (q3y F (x_4,x_5)).bind fun x_6=>
  some x_6
def q1x (F:Nat) (k_1:Int) (x_7:Int) (x_8:Int) (x_9:Int):Option (Out (Int×Int×Int) (Int×Int)):=
  if (decide (x_9<8))=true then
    (qh F k_1 x_9 x_8).bind fun x_652=>
    some (.next (x_8,ixor .u32 x_7 x_652,w64 (x_9+1)))
  else
    some (.done (x_7,x_8))
def q1y (F:Nat) (k_1:Int) (x_2:Int):Option (Int):=
  (q36 F x_2).bind fun x_3=>
  (iter (fun s=>q1x F k_1 s.1 s.2.1 s.2.2) F (x_3.1,x_3.2,0)).bind fun o=>
  q5u F o.1 o.2
def q5v (_:Nat) (x_7:Int) (x_8:Int):Option (Out (Int×Int) (Int)):=
  some (.next (x_8,w64 (x_7+8)))
def q7d (F:Nat) (k_1:Int) (x_6:Int) (x_9:Int):Option (Int):=
  (q1y F k_1 (ixor .u64 x_6 x_9)).bind fun x_11=>
  some x_11
def q5w (F:Nat) (k_1:Int) (x_6:Int) (x_7:Int) (x_9:Int):Option (Out (Int×Int) (Int)):=
  (q7d F k_1 x_6 x_9).bind fun o_10=>
  q5v F x_7 o_10
def q16 (_:Nat) (l_12:(List Int)) (x_13:Int) (x_14:Int):Option (Out (Int×Int) (Int)):=
  if (decide (x_14<(len l_12)))=true then
    (idx l_12 x_14).bind fun x_15=>
    (ishl .u64 (wu64 x_15) (w64 (8 * x_14))).bind fun x_16=>
    some (.next (ior .u64 x_13 x_16,w64 (x_14+1)))
  else
    some (.done (x_13))
def q2g (F:Nat) (k_1:Int) (b_2:(List Int)) (x_6:Int) (x_7:Int):Option (Out (Int×Int) (Int)):=
  if (decide (x_7<(len b_2)))=true then
    (sub b_2 x_7 (imin (w64 (x_7+8)) (len b_2))).bind fun l_12=>
    (iter (fun s=>q16 F l_12 s.1 s.2) F (0,0)).bind fun o=>
    q5w F k_1 x_6 x_7 o
  else
    some (.done (x_6))
def q7e (F:Nat) (k_1:Int) (b_2:(List Int)) (x_3:Int):Option (Int):=
  (iter (fun s=>q2g F k_1 b_2 s.1 s.2) F (x_3,0)).bind fun o=>
  some o
def q17 (F:Nat) (k_1:Int) (b_2:(List Int)):Option (Int):=
  (q1y F k_1 (wu64 (len b_2))).bind fun x_3=>
  (q7e F k_1 b_2 x_3).bind fun o_4=>
  some o_4
def q5x (F:Nat) (l_2:(List Txd)):Option ((List Int)):=
  (qz F l_2).bind fun x_3=>
  some x_3.1
def q18 (_:Nat) (numbers_1:(List Int)) (l_4:(List Txd)) (x_5:Int):Option (Out ((List Txd)×Int) ((List Txd))):=
  if (decide (x_5<(len numbers_1)))=true then
    (idx numbers_1 x_5).bind fun x_6=>
    (app 16 l_4 [(Txd.mk 8 x_6)]).bind fun l_7=>
    some (.next (l_7,w64 (x_5+1)))
  else
    some (.done (l_4))
def q3z (F:Nat) (numbers_1:(List Int)):Option ((List Int)):=
  (iter (fun s=>q18 F numbers_1 s.1 s.2) F ([],0)).bind fun o=>
  q5x F o
def q37 (F:Nat) (k_1:Int) (label_2:List Int) (parts_3:(List Int)):Option (Int):=
  (app 1 ([]:List Int) label_2).bind fun l_4=>
  (q3z F parts_3).bind fun x_5=>
  (q5 F [l_4,[0],x_5]).bind fun x_6=>
  (q17 F k_1 x_6).bind fun x_7=>
  some x_7
def q5y (F:Nat) (l_2:(List Int)):Option (Int):=
  (q17 F 0 l_2).bind fun x_3=>
  (q37 F 0 [104,97,115,104] [x_3]).bind fun x_4=>
  some (imax 1 x_4)
def q40 (_:Nat) (x_6:Int) (l_7:(List Int)):Option (Out ((List Int)×Int) ((List Int))):=
  some (.next (l_7,w64 (x_6+1)))
def q5z (F:Nat) (x_6:Int) (x_8:Tx1) (l_9:(List Int)):Option (Out ((List Int)×Int) ((List Int))):=
  (qw F x_8.fT).bind fun x_10=>
  if x_10=true then
    (qo F 2 (wu64 (len x_8.Value))).bind fun x_13=>
    (q5 F [x_13,x_8.Value]).bind fun x_14=>
    (app 1 l_9 x_14).bind fun l_15=>
    q40 F x_6 l_15
  else
    q40 F x_6 l_9
def q19 (F:Nat) (db_1:(List Tx1)) (l_5:(List Int)) (x_6:Int):Option (Out ((List Int)×Int) ((List Int))):=
  if (decide (x_6<(len db_1)))=true then
    (idx db_1 x_6).bind fun x_8=>
    (qo F 2 (wu64 x_8.Handle)).bind fun x_18=>
    (qo F 8 x_8.fT.Low).bind fun x_19=>
    (qo F 8 x_8.fT.High).bind fun x_20=>
    (q5 F [x_18,x_19,x_20]).bind fun x_21=>
    (app 1 l_5 x_21).bind fun l_22=>
    q5z F x_6 x_8 l_22
  else
    some (.done (l_5))
def qr (F:Nat) (db_1:(List Tx1)):Option (Int):=
  (iter (fun s=>q19 F db_1 s.1 s.2) F ([],0)).bind fun o=>
  q5y F o
def q4p (_:Nat) (x_8:Int):Option ((List Int)):=
  some [wu8 x_8,wu8 (shrp x_8 8)]
def q1z (F:Nat) (x_1:Txc) (i_2:Int):Option ((List Int)):=
  (idx x_1.Sv.DB i_2).bind fun x_3=>
  (q8 F x_3.fT 11050).bind fun x_4=>
  if x_4=true then
    (qr F x_1.Sv.DB).bind fun x_5=>
    (qz F [(Txd.mk 8 x_5)]).bind fun x_6=>
    some x_6.1
  else
    (q8 F x_3.fT 10498).bind fun x_7=>
    if x_7=true then
      (qx F x_1.Sv.DB i_2).bind fun x_9=>
      (if x_9.2.2=true then
        (qn F x_1 x_9.2.1).bind fun x_17=>
        some (decide (x_17≥0))
      else
        some (false)).bind fun z_11=>
      if z_11=true then
        (qn F x_1 x_9.2.1).bind fun x_14=>
        (idx x_1.Sv.Subs x_14).bind fun x_15=>
        q4p F x_15.Bits
      else
        q4p F 0
    else
      (q5 F [x_3.Value]).bind fun x_18=>
      some x_18
def q38 (_:Nat) (kind_1:Int):Option (Int):=
  if (kind_1 == 2)=true then
    some 3
  else
    if (kind_1 == 4)=true then
      some 5
    else
      if (kind_1 == 8)=true then
        some 9
      else
        if (kind_1 == 10)=true then
          some 11
        else
          if (kind_1 == 12)=true then
            some 13
          else
            if (kind_1 == 16)=true then
              some 17
            else
              if (kind_1 == 18)=true then
                some 19
              else
                if (kind_1 == 22)=true then
                  some 23
                else
                  if (kind_1 == 24)=true then
                    some 25
                  else
                    if (kind_1 == 29)=true then
                      some 30
                    else
                      some (-1)
def q39 (_:Nat) (mtu_2:Int) (z_6:Bool):Option (Int):=
  if z_6=true then
    some (w64 ((imax 23 (imin mtu_2 517)) - 2))
  else
    some 0
def q41 (F:Nat) (kind_1:Int) (mtu_2:Int) (z_5:Bool):Option (Int):=
  if z_5=true then
    some (imin 512 (w64 ((imax 23 (imin mtu_2 517)) - 5)))
  else
    if (kind_1 == 5)=true then
      q39 F mtu_2 (kind_1 == 5)
    else
      if (kind_1 == 9)=true then
        q39 F mtu_2 (kind_1 == 9)
      else
        q39 F mtu_2 (kind_1 == 17)
def q2h (F:Nat) (kind_1:Int) (mtu_2:Int) (z_4:Bool):Option (Int):=
  if z_4=true then
    some (imin 512 (w64 ((imax 23 (imin mtu_2 517)) - 3)))
  else
    if (kind_1 == 22)=true then
      q41 F kind_1 mtu_2 (kind_1 == 22)
    else
      q41 F kind_1 mtu_2 (kind_1 == 23)
def q42 (F:Nat) (kind_1:Int) (mtu_2:Int) (z_3:Bool):Option (Int):=
  if z_3=true then
    some (imin 512 (w64 ((imax 23 (imin mtu_2 517)) - 1)))
  else
    if (kind_1 == 18)=true then
      q2h F kind_1 mtu_2 (kind_1 == 18)
    else
      if (kind_1 == 82)=true then
        q2h F kind_1 mtu_2 (kind_1 == 82)
      else
        if (kind_1 == 27)=true then
          q2h F kind_1 mtu_2 (kind_1 == 27)
        else
          q2h F kind_1 mtu_2 (kind_1 == 29)
def qf (F:Nat) (kind_1:Int) (mtu_2:Int):Option (Int):=
  if (kind_1 == 11)=true then
    q42 F kind_1 mtu_2 (kind_1 == 11)
  else
    q42 F kind_1 mtu_2 (kind_1 == 13)
def q10 (F:Nat) (b_1:(List Int)) (n_2:Int):Option ((List Int)):=
  (sub b_1 0 (imax 0 (imin n_2 (len b_1)))).bind fun l_3=>
  (q5 F [l_3]).bind fun x_4=>
  some x_4
def q60 (_:Nat) (x_9:Int) (l_11:(List Int)):Option (Tx4):=
  some (Tx4.mk x_9 0 0 0 (Tx0.mk 0 0) 0 0 0 false l_11 [])
def q43 (F:Nat) (x_1:Txc) (x_9:Int) (l_10:(List Int)):Option (Tx4):=
  (qf F x_9 x_1.Sv.MTU).bind fun x_14=>
  (q10 F l_10 x_14).bind fun x_15=>
  q60 F x_9 x_15
def q61 (F:Nat) (x_1:Txc) (p_2:Tx4) (x_3:Int):Option (Tx4):=
  if (decide (x_3<0))=true then
    (q7 F p_2 p_2.Handle 1).bind fun x_4=>
    some x_4
  else
    (idx x_1.Sv.DB x_3).bind fun x_5=>
    (q1u F x_1 x_5).bind fun x_6=>
    if (x_6 != 0)=true then
      (q7 F p_2 p_2.Handle x_6).bind fun x_7=>
      some x_7
    else
      (q1z F x_1 x_3).bind fun x_8=>
      (q38 F p_2.Kind).bind fun x_9=>
      if (p_2.Kind == 12)=true then
        if ((decide (p_2.Offset<0))||(decide (p_2.Offset > (len x_8))))=true then
          (q7 F p_2 p_2.Handle 7).bind fun x_16=>
          some x_16
        else
          (sub x_8 p_2.Offset (len x_8)).bind fun l_17=>
          q43 F x_1 x_9 l_17
      else
        q43 F x_1 x_9 x_8
def q3a (F:Nat) (x_1:Txc) (p_2:Tx4):Option (Tx4):=
  (qe F x_1.Sv.DB p_2.Handle).bind fun x_20=>
  q61 F x_1 p_2 x_20
def q7f (_:Nat) (x_1:Txc) (p_2:Tx4):Option (Tx4×Txc):=
  some ((Tx4.mk 3 0 0 0 (Tx0.mk 0 0) 0 x_1.Sv.Max 0 false [] []),{ x_1 with Sv:={ x_1.Sv with MTU:=imin p_2.MTU x_1.Sv.Max } })
def q4q (F:Nat) (x_1:Txc) (p_2:Tx4):Option (Tx4×Txc):=
  q7f F x_1 p_2
def q20 (F:Nat) (a_1:Tx1):Option (Tx1):=
  (q5 F [a_1.Value]).bind fun x_2=>
  some ({ a_1 with Value:=x_2 })
def q7g (_:Nat) (l_4:(List Tx1)):Option ((List Tx1)):=
  some l_4
def q4r (_:Nat) (x_6:Int) (l_7:(List Tx1)):Option (Out ((List Tx1)×Int) ((List Tx1))):=
  some (.next (l_7,w64 (x_6+1)))
def q2i (F:Nat) (db_1:(List Tx1)) (first_2:Int) (last_3:Int) (l_5:(List Tx1)) (x_6:Int):Option (Out ((List Tx1)×Int) ((List Tx1))):=
  if (decide (x_6<(len db_1)))=true then
    (idx db_1 x_6).bind fun x_8=>
    if ((decide (x_8.Handle≥first_2))&&(decide (x_8.Handle≤last_3)))=true then
      (q20 F x_8).bind fun x_9=>
      (app 56 l_5 [x_9]).bind fun l_10=>
      q4r F x_6 l_10
    else
      q4r F x_6 l_5
  else
    some (.done (l_5))
def q3b (F:Nat) (db_1:(List Tx1)) (first_2:Int) (last_3:Int):Option ((List Tx1)):=
  (iter (fun s=>q2i F db_1 first_2 last_3 s.1 s.2) F ([],0)).bind fun o=>
  q7g F o
def q3c (F:Nat) (u_1:Tx0):Option ((List Int)):=
  (qu F u_1).bind fun x_2=>
  if x_2.2=true then
    some [wu8 x_2.1,wu8 (shrp x_2.1 8)]
  else
    (qq F u_1).bind fun x_3=>
    (q5 F [[x_3.1,x_3.2.1,x_3.2.2.1,x_3.2.2.2.1,x_3.2.2.2.2.1,x_3.2.2.2.2.2.1,x_3.2.2.2.2.2.2.1,x_3.2.2.2.2.2.2.2.1,x_3.2.2.2.2.2.2.2.2.1,x_3.2.2.2.2.2.2.2.2.2.1,x_3.2.2.2.2.2.2.2.2.2.2.1,x_3.2.2.2.2.2.2.2.2.2.2.2.1,x_3.2.2.2.2.2.2.2.2.2.2.2.2.1,x_3.2.2.2.2.2.2.2.2.2.2.2.2.2.1,x_3.2.2.2.2.2.2.2.2.2.2.2.2.2.2.1,x_3.2.2.2.2.2.2.2.2.2.2.2.2.2.2.2]]).bind fun x_4=>
    some x_4
def q62 (_:Nat) (l_1:Txe) (size_3:Int) (l_4:(List Tx3)):Option (Bool×Txe):=
  some (true,(Txe.mk l_4 (w64 (l_1.room - size_3))))
def qp (F:Nat) (l_1:Txe) (i_2:Tx3) (size_3:Int):Option (Bool×Txe):=
  if (decide (size_3 > l_1.room))=true then
    some (false,l_1)
  else
    (app 48 l_1.items [i_2]).bind fun l_567=>
    q62 F l_1 size_3 l_567
def q63 (F:Nat) (x_1:Txc) (p_2:Tx4) (c_6:Txe):Option (Tx4×Txc):=
  if ((len c_6.items) == 0)=true then
    (q7 F p_2 p_2.Handle 10).bind fun x_7=>
    some (x_7,x_1)
  else
    some ((Tx4.mk 5 0 0 0 (Tx0.mk 0 0) 0 0 0 false [] c_6.items),x_1)
def q44 (_:Nat) (x_14:Int) (x_17:Int) (c_21:Txe) (z_22:Bool):Option (Out (Txe×Int×Int) (Txe)):=
  if z_22=true then
    some (.done (c_21))
  else
    some (.next (c_21,x_17,w64 (x_14+1)))
def q3d (F:Nat) (c_12:Txe) (x_14:Int) (x_15:Tx1) (x_16:(List Int)) (x_17:Int):Option (Out (Txe×Int×Int) (Txe)):=
  (if ((len x_16) != x_17)=true then
    some (c_12,true)
  else
    (qp F c_12 (Tx3.mk x_15.Handle 0 x_15.fT []) (w64 (2+(len x_16)))).bind fun x_24=>
    some (x_24.2,(!x_24.1))).bind fun z_23=>
  q44 F x_14 x_17 z_23.1 z_23.2
def q2j (F:Nat) (l_8:(List Tx1)) (x_9:Int) (c_12:Txe) (x_13:Int) (x_14:Int):Option (Out (Txe×Int×Int) (Txe)):=
  if (decide (x_14<x_9))=true then
    (idx l_8 x_14).bind fun x_15=>
    (q3c F x_15.fT).bind fun x_16=>
    if (x_13 == 0)=true then
      q3d F c_12 x_14 x_15 x_16 (len x_16)
    else
      q3d F c_12 x_14 x_15 x_16 x_13
  else
    some (.done (c_12))
def q64 (F:Nat) (x_1:Txc) (p_2:Tx4) (x_3:Int) (l_8:(List Tx1)) (x_9:Int):Option (Tx4×Txc):=
  (iter (fun s=>q2j F l_8 x_9 s.1 s.2.1 s.2.2) F ((Txe.mk [] x_3),0,0)).bind fun o=>
  q63 F x_1 p_2 o
def q3e (F:Nat) (x_1:Txc) (p_2:Tx4):Option (Tx4×Txc):=
  (qf F 5 x_1.Sv.MTU).bind fun x_3=>
  (q3b F x_1.Sv.DB p_2.Handle p_2.Last).bind fun x_27=>
  q64 F x_1 p_2 x_3 x_27 (len x_27)
def q65 (F:Nat) (x_1:Txc) (p_2:Tx4) (c_6:Txe):Option (Tx4×Txc):=
  if ((len c_6.items) == 0)=true then
    (q7 F p_2 p_2.Handle 10).bind fun x_7=>
    some (x_7,x_1)
  else
    some ((Tx4.mk 9 0 0 0 (Tx0.mk 0 0) 0 0 0 false [] c_6.items),x_1)
def q4s (_:Nat) (x_11:Int) (c_14:Txe):Option (Out (Txe×Int) (Sum (Txe) (Tx4×Txc))):=
  some (.next (c_14,w64 (x_11+1)))
def q45 (F:Nat) (x_11:Int) (c_24:Txe) (z_25:Bool):Option (Out (Txe×Int) (Sum (Txe) (Tx4×Txc))):=
  if z_25=true then
    some (.done (.inl (c_24)))
  else
    q4s F x_11 c_24
def q66 (F:Nat) (c_10:Txe) (x_11:Int) (x_15:Tx1) (x_16:Int) (l_18:(List Int)):Option (Out (Txe×Int) (Sum (Txe) (Tx4×Txc))):=
  (if (x_16 != 0)=true then
    some (true)
  else
    if (decide ((len c_10.items) > 0))=true then
      (idx c_10.items 0).bind fun x_30=>
      some (((len l_18) != (len x_30.Value)))
    else
      some (false)).bind fun z_20=>
  (if z_20=true then
    some (c_10,true)
  else
    (qp F c_10 (Tx3.mk x_15.Handle 0 (Tx0.mk 0 0) l_18) (w64 (2+(len l_18)))).bind fun x_27=>
    some (x_27.2,(!x_27.1))).bind fun z_26=>
  q45 F x_11 z_26.1 z_26.2
def q2k (F:Nat) (x_1:Txc) (p_2:Tx4) (c_10:Txe) (x_11:Int):Option (Out (Txe×Int) (Sum (Txe) (Tx4×Txc))):=
  if (decide (x_11<(len x_1.Sv.DB)))=true then
    (idx x_1.Sv.DB x_11).bind fun x_15=>
    if (((!((x_15.fT.High == p_2.fT.High)&&(x_15.fT.Low == p_2.fT.Low)))||(decide (x_15.Handle<p_2.Handle)))||(decide (x_15.Handle > p_2.Last)))=true then
      q4s F x_11 c_10
    else
      (q1u F x_1 x_15).bind fun x_16=>
      if ((x_16 != 0)&&((len c_10.items) == 0))=true then
        (q7 F p_2 x_15.Handle x_16).bind fun x_17=>
        some (.done (.inr (x_17,x_1)))
      else
        (q1z F x_1 x_11).bind fun x_33=>
        (q10 F x_33 (imin (w64 (x_1.Sv.MTU - 4)) 253)).bind fun x_34=>
        q66 F c_10 x_11 x_15 x_16 x_34
  else
    some (.done (.inl (c_10)))
def q3f (F:Nat) (x_1:Txc) (p_2:Tx4):Option (Tx4×Txc):=
  (qf F 9 x_1.Sv.MTU).bind fun x_3=>
  (iter (fun s=>q2k F x_1 p_2 s.1 s.2) F ((Txe.mk [] x_3),0)).bind fun o=>
  match o with
  | .inl u=>q65 F x_1 p_2 u
  | .inr u=>some u
def q67 (_:Nat) (db_1:(List Tx1)) (x_6:Int):Option (Int×Bool):=
  (idx db_1 x_6).bind fun x_7=>
  some (x_7.Handle,true)
def q2l (F:Nat) (db_1:(List Tx1)) (x_8:Int):Option (Out (Int) (Int)):=
  (if (decide ((w64 (x_8+1))<(len db_1)))=true then
    (idx db_1 (w64 (x_8+1))).bind fun x_12=>
    (qd F x_12.fT).bind fun x_13=>
    some ((!x_13))
  else
    some (false)).bind fun z_10=>
  if z_10=true then
    some (.next (w64 (x_8+1)))
  else
    some (.done (x_8))
def q3g (F:Nat) (db_1:(List Tx1)) (handle_2:Int):Option (Int×Bool):=
  (qe F db_1 handle_2).bind fun x_3=>
  (if (decide (x_3<0))=true then
    some (true)
  else
    (idx db_1 x_3).bind fun x_15=>
    (qd F x_15.fT).bind fun x_16=>
    some ((!x_16))).bind fun z_5=>
  if z_5=true then
    some (0,false)
  else
    (iter (fun s=>q2l F db_1 s) F (x_3)).bind fun o=>
    q67 F db_1 o
def q68 (F:Nat) (x_1:Txc) (p_2:Tx4) (c_10:Txe):Option (Tx4×Txc):=
  if ((len c_10.items) == 0)=true then
    (q7 F p_2 p_2.Handle 10).bind fun x_11=>
    some (x_11,x_1)
  else
    some ((Tx4.mk 17 0 0 0 (Tx0.mk 0 0) 0 0 0 false [] c_10.items),x_1)
def q4t (_:Nat) (x_15:Int) (c_18:Txe):Option (Out (Txe×Int) (Txe)):=
  some (.next (c_18,w64 (x_15+1)))
def q21 (F:Nat) (x_15:Int) (c_23:Txe) (z_24:Bool):Option (Out (Txe×Int) (Txe)):=
  if z_24=true then
    some (.done (c_23))
  else
    q4t F x_15 c_23
def q4u (F:Nat) (c_14:Txe) (x_15:Int) (x_19:Tx1) (x_20:Int):Option (Out (Txe×Int) (Txe)):=
  if (decide ((len c_14.items) > 0))=true then
    (idx c_14.items 0).bind fun x_28=>
    if ((len x_19.Value) != (len x_28.Value))=true then
      q21 F x_15 c_14 true
    else
      (q5 F [x_19.Value]).bind fun x_30=>
      (qp F c_14 (Tx3.mk x_19.Handle x_20 (Tx0.mk 0 0) x_30) (w64 (4+(len x_19.Value)))).bind fun x_31=>
      q21 F x_15 x_31.2 (!x_31.1)
  else
    (q5 F [x_19.Value]).bind fun x_32=>
    (qp F c_14 (Tx3.mk x_19.Handle x_20 (Tx0.mk 0 0) x_32) (w64 (4+(len x_19.Value)))).bind fun x_33=>
    q21 F x_15 x_33.2 (!x_33.1)
def q2m (F:Nat) (x_1:Txc) (p_2:Tx4) (c_14:Txe) (x_15:Int):Option (Out (Txe×Int) (Txe)):=
  if (decide (x_15<(len x_1.Sv.DB)))=true then
    (idx x_1.Sv.DB x_15).bind fun x_19=>
    if (((!((x_19.fT.High == p_2.fT.High)&&(x_19.fT.Low == p_2.fT.Low)))||(decide (x_19.Handle<p_2.Handle)))||(decide (x_19.Handle > p_2.Last)))=true then
      q4t F x_15 c_14
    else
      (q3g F x_1.Sv.DB x_19.Handle).bind fun x_36=>
      q4u F c_14 x_15 x_19 x_36.1
  else
    some (.done (c_14))
def q3h (F:Nat) (x_1:Txc) (p_2:Tx4):Option (Tx4×Txc):=
  (q8 F p_2.fT 10240).bind fun x_3=>
  (if (!x_3)=true then
    (q8 F p_2.fT 10241).bind fun x_38=>
    some ((!x_38))
  else
    some (false)).bind fun z_5=>
  if z_5=true then
    (q7 F p_2 p_2.Handle 16).bind fun x_6=>
    some (x_6,x_1)
  else
    (qf F 17 x_1.Sv.MTU).bind fun x_7=>
    (iter (fun s=>q2m F x_1 p_2 s.1 s.2) F ((Txe.mk [] x_7),0)).bind fun o=>
    q68 F x_1 p_2 o
def q69 (_:Nat) (p_2:Tx4) (x_3:Int×Int×Txc) (l_9:(List Tx9)) (l_10:(List Int)):Option (Tx4×Txc):=
  some ({ p_2 with Kind:=23,Asked:=0,Last:=0,fT:=(Tx0.mk 0 0),MTU:=0,Code:=0,Commit:=false,Value:=l_10,List:=[] },{ x_3.2.2 with Sv:={ x_3.2.2.Sv with Queue:=l_9 } })
def q6a (F:Nat) (p_2:Tx4) (x_3:Int×Int×Txc) (l_9:(List Tx9)):Option (Tx4×Txc):=
  (q5 F [p_2.Value]).bind fun x_13=>
  q69 F p_2 x_3 l_9 x_13
def q3i (F:Nat) (x_1:Txc) (p_2:Tx4):Option (Tx4×Txc):=
  (q1s F x_1 p_2.Handle).bind fun x_3=>
  if (x_3.2.1 != 0)=true then
    (q7 F p_2 p_2.Handle x_3.2.1).bind fun x_4=>
    some (x_4,x_3.2.2)
  else
    (idx x_3.2.2.Sv.DB x_3.1).bind fun x_5=>
    (q8 F x_5.fT 10498).bind fun x_6=>
    if x_6=true then
      (q7 F p_2 p_2.Handle 6).bind fun x_7=>
      some (x_7,x_3.2.2)
    else
      if (decide ((len x_3.2.2.Sv.Queue)≥16))=true then
        (q7 F p_2 p_2.Handle 9).bind fun x_8=>
        some (x_8,x_3.2.2)
      else
        (q5 F [p_2.Value]).bind fun x_1056=>
        (app 40 x_3.2.2.Sv.Queue [(Tx9.mk p_2.Handle p_2.Offset x_1056)]).bind fun l_1296=>
        q6a F p_2 x_3 l_1296
def q6b (_:Nat) (x_1:Txc) (l_4:(List Tx1)) (l_5:(List Int)):Option (Tx4×Txc):=
  some ((Tx4.mk 25 0 0 0 (Tx0.mk 0 0) 0 0 0 false [] []),(Txc.mk ({ x_1.Sv with DB:=l_4,Queue:=[] }) l_5))
def q4v (_:Nat) (x_8:Int) (l_9:(List Tx1)) (l_10:(List Int)):Option (Out ((List Tx1)×(List Int)×Int) (Sum ((List Tx1)×(List Int)) (Tx4×Txc))):=
  some (.next (l_9,l_10,w64 (x_8+1)))
def q2n (F:Nat) (x_1:Txc) (p_2:Tx4) (l_6:(List Tx1)) (l_7:(List Int)) (x_8:Int):Option (Out ((List Tx1)×(List Int)×Int) (Sum ((List Tx1)×(List Int)) (Tx4×Txc))):=
  if (decide (x_8<(len x_1.Sv.Queue)))=true then
    (idx x_1.Sv.Queue x_8).bind fun x_11=>
    (qe F l_6 x_11.Handle).bind fun x_12=>
    if (decide (x_12<0))=true then
      (q7 F p_2 x_11.Handle 1).bind fun x_13=>
      some (.done (.inr (x_13,{ x_1 with Sv:={ x_1.Sv with Queue:=[] } })))
    else
      (idx l_6 x_12).bind fun x_14=>
      if ((decide (x_11.Offset<0))||(decide (x_11.Offset > (len x_14.Value))))=true then
        (q7 F p_2 x_11.Handle 7).bind fun x_15=>
        some (.done (.inr (x_15,{ x_1 with Sv:={ x_1.Sv with Queue:=[] } })))
      else
        if (decide ((w64 (x_11.Offset+(len x_11.Value))) > 512))=true then
          (q7 F p_2 x_11.Handle 13).bind fun x_16=>
          some (.done (.inr (x_16,{ x_1 with Sv:={ x_1.Sv with Queue:=[] } })))
        else
          (sub x_14.Value 0 x_11.Offset).bind fun l_19=>
          (q5 F [l_19,x_11.Value]).bind fun x_20=>
          (idx l_6 x_12).bind fun _=>
          (idx l_6 x_12).bind fun x_22=>
          (upd l_6 x_12 ({ x_22 with Value:=x_20 })).bind fun l_23=>
          (q1e F l_7 x_11.Handle).bind fun x_24=>
          if (!x_24)=true then
            (app 2 l_7 [x_11.Handle]).bind fun l_25=>
            q4v F x_8 l_23 l_25
          else
            q4v F x_8 l_23 l_7
  else
    some (.done (.inl (l_6,l_7)))
def q3j (F:Nat) (x_1:Txc) (p_2:Tx4):Option (Tx4×Txc):=
  if (!p_2.Commit)=true then
    some ((Tx4.mk 25 0 0 0 (Tx0.mk 0 0) 0 0 0 false [] []),{ x_1 with Sv:={ x_1.Sv with Queue:=[] } })
  else
    (q6 F x_1.Sv.DB).bind fun x_3=>
    (iter (fun s=>q2n F x_1 p_2 s.1 s.2.1 s.2.2) F (x_3,[],0)).bind fun o=>
    match o with
    | .inl u=>q6b F x_1 u.1 u.2
    | .inr u=>some u
def q7h (_:Nat) (x_11:Tx4×Txc):Option (Txa×(List Tx4)×(List Int)):=
  some (x_11.2.Sv,[],x_11.2.wn)
def q7i (_:Nat) (x_4:Txc) (x_14:Int) (x_16:Tx4):Option (Txa×(List Tx4)×(List Int)):=
  some ({ x_4.Sv with Aware:=x_14 },[x_16],x_4.wn)
def q7j (_:Nat) (x_1139:Tx4×Txc):Option (Txa×(List Tx4)×(List Int)):=
  some (x_1139.2.Sv,[x_1139.1],x_1139.2.wn)
def q7k (_:Nat) (x_2262:Tx4×Txc):Option (Txa×(List Tx4)×(List Int)):=
  some (x_2262.2.Sv,[x_2262.1],x_2262.2.wn)
def q7l (_:Nat) (x_3385:Tx4×Txc):Option (Txa×(List Tx4)×(List Int)):=
  some (x_3385.2.Sv,[x_3385.1],x_3385.2.wn)
def q7m (_:Nat) (x_4508:Tx4×Txc):Option (Txa×(List Tx4)×(List Int)):=
  some (x_4508.2.Sv,[x_4508.1],x_4508.2.wn)
def q7n (_:Nat) (x_5631:Tx4×Txc):Option (Txa×(List Tx4)×(List Int)):=
  some (x_5631.2.Sv,[x_5631.1],x_5631.2.wn)
def q7o (_:Nat) (x_6754:Tx4×Txc):Option (Txa×(List Tx4)×(List Int)):=
  some (x_6754.2.Sv,[x_6754.1],x_6754.2.wn)
def q7p (_:Nat) (x_7877:Tx4×Txc):Option (Txa×(List Tx4)×(List Int)):=
  some (x_7877.2.Sv,[x_7877.1],x_7877.2.wn)
def q46 (F:Nat) (p_2:Tx4) (x_4:Txc) (x_14:Int):Option (Txa×(List Tx4)×(List Int)):=
  if ((p_2.Kind == 10)||(p_2.Kind == 12))=true then
    (q3a F ({ x_4 with Sv:={ x_4.Sv with Aware:=x_14 } }) p_2).bind fun x_16=>
    q7i F x_4 x_14 x_16
  else
    if (p_2.Kind == 2)=true then
      (q4q F ({ x_4 with Sv:={ x_4.Sv with Aware:=x_14 } }) p_2).bind fun x_1139=>
      q7j F x_1139
    else
      if (p_2.Kind == 4)=true then
        (q3e F ({ x_4 with Sv:={ x_4.Sv with Aware:=x_14 } }) p_2).bind fun x_2262=>
        q7k F x_2262
      else
        if (p_2.Kind == 8)=true then
          (q3f F ({ x_4 with Sv:={ x_4.Sv with Aware:=x_14 } }) p_2).bind fun x_3385=>
          q7l F x_3385
        else
          if (p_2.Kind == 16)=true then
            (q3h F ({ x_4 with Sv:={ x_4.Sv with Aware:=x_14 } }) p_2).bind fun x_4508=>
            q7m F x_4508
          else
            if (p_2.Kind == 18)=true then
              (qy F ({ x_4 with Sv:={ x_4.Sv with Aware:=x_14 } }) p_2).bind fun x_5631=>
              q7n F x_5631
            else
              if (p_2.Kind == 22)=true then
                (q3i F ({ x_4 with Sv:={ x_4.Sv with Aware:=x_14 } }) p_2).bind fun x_6754=>
                q7o F x_6754
              else
                if (p_2.Kind == 24)=true then
                  (q3j F ({ x_4 with Sv:={ x_4.Sv with Aware:=x_14 } }) p_2).bind fun x_7877=>
                  q7p F x_7877
                else
                  none
def q7q (_:Nat) (x_4:Txc) (x_9000:Int) (l_9002:(List Tx4)):Option (Txa×(List Tx4)×(List Int)):=
  some ({ x_4.Sv with Aware:=x_9000 },l_9002,[])
def q47 (F:Nat) (p_2:Tx4) (x_4:Txc) (x_9000:Int) (z_9001:Bool):Option (Txa×(List Tx4)×(List Int)):=
  if z_9001=true then
    (q7 F p_2 p_2.Handle 18).bind fun x_9005=>
    q7q F x_4 x_9000 [x_9005]
  else
    q46 F p_2 x_4 x_9000
def q7r (_:Nat) (x_10055:Tx4×Txc):Option (Txa×(List Tx4)×(List Int)):=
  some (x_10055.2.Sv,[],x_10055.2.wn)
def qi (F:Nat) (s_1:Txa) (p_2:Tx4) (_:Int):Option (Txa×(List Tx4)×(List Int)):=
  (qm F s_1).bind fun x_4=>
  if (((p_2.Kind == 10)||(p_2.Kind == 12))||((p_2.Kind == 2)||((p_2.Kind == 4)||((p_2.Kind == 8)||((p_2.Kind == 16)||((p_2.Kind == 18)||((p_2.Kind == 22)||(p_2.Kind == 24))))))))=true then
    (q2d F x_4).bind fun _=>
    if (p_2.Kind == 30)=true then
      some ({ x_4.Sv with Wait:=false },[],[])
    else
      if ((p_2.Kind == 82)&&((!x_4.Sv.Robust)||(x_4.Sv.Aware == 2)))=true then
        (qy F x_4 p_2).bind fun x_11=>
        q7h F x_11
      else
        if x_4.Sv.Robust=true then
          if (p_2.Kind == 8)=true then
            (q8 F p_2.fT 11050).bind fun x_10049=>
            (q1t F x_4.Sv.Aware x_10049).bind fun x_10050=>
            q47 F p_2 x_4 x_10050.1 x_10050.2
          else
            (q1t F x_4.Sv.Aware false).bind fun x_10051=>
            q47 F p_2 x_4 x_10051.1 x_10051.2
        else
          q46 F p_2 x_4 x_4.Sv.Aware
  else
    (q2d F x_4).bind fun _=>
    if (p_2.Kind == 30)=true then
      some ({ x_4.Sv with Wait:=false },[],[])
    else
      if ((p_2.Kind == 82)&&((!x_4.Sv.Robust)||(x_4.Sv.Aware == 2)))=true then
        (qy F x_4 p_2).bind fun x_10055=>
        q7r F x_10055
      else
        some (x_4.Sv,[],[])
def q7s (_:Nat) (x_3:Txc) (x_6:(List Tx1)) (l_7:(List Tx2)) (l_8:(List Tx4)):Option (Txa×Int):=
  some ({ x_3.Sv with DB:=x_6,Queue:=[],Aware:=0,Subs:=l_7,Out:=l_8 },0)
def q6c (F:Nat) (x_6:(List Tx1)) (x_9:Int) (x_10:Tx2) (x_11:Int):Option (Out (Int) ((List Tx4))):=
  (if (((iand .i64 x_10.Bits 2) != 0)&&(decide (x_11≥0)))=true then
    (idx x_6 x_11).bind fun x_15=>
    (q8 F x_15.fT 10757).bind fun x_16=>
    some (x_16)
  else
    some (false)).bind fun z_13=>
  if z_13=true then
    some (.done ([(Tx4.mk 29 0 x_10.Handle 0 (Tx0.mk 0 0) 0 0 0 false [1,0,255,255] [])]))
  else
    some (.next (w64 (x_9+1)))
def q2o (F:Nat) (x_6:(List Tx1)) (l_7:(List Tx2)) (x_9:Int):Option (Out (Int) ((List Tx4))):=
  if (decide (x_9<(len l_7)))=true then
    (idx l_7 x_9).bind fun x_10=>
    (qe F x_6 x_10.Handle).bind fun x_19=>
    q6c F x_6 x_9 x_10 x_19
  else
    some (.done ([]))
def q6d (F:Nat) (x_3:Txc) (x_6:(List Tx1)) (l_7:(List Tx2)):Option (Txa×Int):=
  (iter (fun s=>q2o F x_6 l_7 s) F (0)).bind fun o=>
  q7s F x_3 x_6 l_7 o
def q4w (_:Nat) (x_21:Int) (l_22:(List Tx2)):Option (Out ((List Tx2)×Int) ((List Tx2))):=
  some (.next (l_22,w64 (x_21+1)))
def q2p (F:Nat) (db_2:(List Tx1)) (x_3:Txc) (l_20:(List Tx2)) (x_21:Int):Option (Out ((List Tx2)×Int) ((List Tx2))):=
  if (decide (x_21<(len x_3.Sv.Subs)))=true then
    (idx x_3.Sv.Subs x_21).bind fun x_23=>
    (q1l F db_2 x_23.Handle).bind fun x_24=>
    if ((iand .i64 x_23.Bits x_24.1) != 0)=true then
      (app 16 l_20 [{ x_23 with Bits:=iand .i64 x_23.Bits x_24.1 }]).bind fun l_25=>
      q4w F x_21 l_25
    else
      q4w F x_21 l_20
  else
    some (.done (l_20))
def q6e (F:Nat) (db_2:(List Tx1)) (x_3:Txc) (z_5:Bool):Option (Txa×Int):=
  (q6 F db_2).bind fun x_6=>
  if z_5=true then
    some ({ x_3.Sv with DB:=x_6 },0)
  else
    (iter (fun s=>q2p F db_2 x_3 s.1 s.2) F ([],0)).bind fun o=>
    q6d F x_3 x_6 o
def q11 (F:Nat) (s_1:Txa) (db_2:(List Tx1)):Option (Txa×Int):=
  (qm F s_1).bind fun x_3=>
  (q1j F db_2).bind fun x_4=>
  if (x_4 != 0)=true then
    some (x_3.Sv,x_4)
  else
    (qr F db_2).bind fun x_28=>
    (qr F x_3.Sv.DB).bind fun x_29=>
    q6e F db_2 x_3 (x_28 == x_29)
def q4x (_:Nat) (a_1:(List Int)) (b_2:(List Int)):Option (Bool):=
  some ((str a_1) == (str b_2))
def q7t (F:Nat) (x_2:Txa×Int) (x_3:Txa×(List Tx4)×(List Int)) (x_4:Txa×(List Tx4)×(List Int)) (c_16:Txa) (x_17:Int):Option (Bool):=
  (qi F c_16 (Tx4.mk 10 0 3 0 (Tx0.mk 0 0) 0 0 0 false [] []) 0).bind fun x_18=>
  (qi F x_18.1 (Tx4.mk 10 0 3 0 (Tx0.mk 0 0) 0 0 0 false [] []) 0).bind fun x_19=>
  if ((((((x_2.2 != 0)||(x_17 != 0))||((len x_3.2.1) != 1))||((len x_4.2.1) != 1))||((len x_18.2.1) != 1))||((len x_19.2.1) != 1))=true then
    some false
  else
    (idx x_3.2.1 0).bind fun x_20=>
    (if (x_20.Kind == 11)=true then
      (idx x_3.2.1 0).bind fun x_40=>
      (q4x F x_40.Value [50]).bind fun x_41=>
      some (x_41)
    else
      some (false)).bind fun z_22=>
    (if z_22=true then
      (idx x_4.2.1 0).bind fun x_38=>
      some ((x_38.Kind == 1))
    else
      some (false)).bind fun z_24=>
    (if z_24=true then
      (idx x_4.2.1 0).bind fun x_36=>
      some ((x_36.Code == 1))
    else
      some (false)).bind fun z_26=>
    (if z_26=true then
      (idx x_18.2.1 0).bind fun x_34=>
      some ((x_34.Code == 18))
    else
      some (false)).bind fun z_28=>
    (if z_28=true then
      (idx x_19.2.1 0).bind fun x_32=>
      some ((x_32.Kind == 11))
    else
      some (false)).bind fun z_30=>
    some z_30
def q1a (F:Nat):Option (Bool):=
  (q27 F 10777).bind fun x_1=>
  (q1n F x_1 100 0 true 2 []).bind fun x_2=>
  (qi F x_2.1 (Tx4.mk 10 0 3 0 (Tx0.mk 0 0) 0 0 0 false [] []) 0).bind fun x_3=>
  (qi F x_3.1 (Tx4.mk 10 0 9 0 (Tx0.mk 0 0) 0 0 0 false [] []) 0).bind fun x_4=>
  (q27 F 10778).bind fun x_124=>
  (q11 F x_4.1 x_124).bind fun x_204=>
  q7t F x_2 x_3 x_4 x_204.1 x_204.2
def q3k (_:Nat) (z_8:Bool):Option (Txf):=
  if z_8=true then
    some (Txf.mk true false false false false false false false false false true)
  else
    some (Txf.mk false false false false false false false false false false false)
def q3l (F:Nat) (kind_1:Int) (z_7:Bool):Option (Txf):=
  if z_7=true then
    some (Txf.mk true false false false false false false false false false false)
  else
    if (kind_1 == 5)=true then
      q3k F (kind_1 == 5)
    else
      if (kind_1 == 9)=true then
        q3k F (kind_1 == 9)
      else
        q3k F (kind_1 == 17)
def q48 (F:Nat) (kind_1:Int) (z_6:Bool):Option (Txf):=
  if z_6=true then
    some (Txf.mk true false true false false true false false false true false)
  else
    if (kind_1 == 24)=true then
      some (Txf.mk true false false false false false false false true false false)
    else
      if (kind_1 == 19)=true then
        q3l F kind_1 (kind_1 == 19)
      else
        if (kind_1 == 25)=true then
          q3l F kind_1 (kind_1 == 25)
        else
          q3l F kind_1 (kind_1 == 30)
def q2q (F:Nat) (kind_1:Int) (z_5:Bool):Option (Txf):=
  if z_5=true then
    some (Txf.mk true false true false false false false false false true false)
  else
    if (kind_1 == 22)=true then
      q48 F kind_1 (kind_1 == 22)
    else
      q48 F kind_1 (kind_1 == 23)
def q49 (F:Nat) (kind_1:Int) (z_4:Bool):Option (Txf):=
  if z_4=true then
    some (Txf.mk true false false false false false false false false true false)
  else
    if (kind_1 == 18)=true then
      q2q F kind_1 (kind_1 == 18)
    else
      if (kind_1 == 82)=true then
        q2q F kind_1 (kind_1 == 82)
      else
        if (kind_1 == 27)=true then
          q2q F kind_1 (kind_1 == 27)
        else
          q2q F kind_1 (kind_1 == 29)
def q4a (F:Nat) (kind_1:Int) (z_3:Bool):Option (Txf):=
  if z_3=true then
    some (Txf.mk true false true true true false false false false false false)
  else
    if (kind_1 == 10)=true then
      some (Txf.mk true false true false false false false false false false false)
    else
      if (kind_1 == 12)=true then
        some (Txf.mk true false true false false true false false false false false)
      else
        if (kind_1 == 11)=true then
          q49 F kind_1 (kind_1 == 11)
        else
          q49 F kind_1 (kind_1 == 13)
def q4b (F:Nat) (kind_1:Int) (z_2:Bool):Option (Txf):=
  if z_2=true then
    some (Txf.mk true false false false false false true false false false false)
  else
    if (kind_1 == 4)=true then
      some (Txf.mk true false true true false false false false false false false)
    else
      if (kind_1 == 8)=true then
        q4a F kind_1 (kind_1 == 8)
      else
        q4a F kind_1 (kind_1 == 16)
def q22 (F:Nat) (kind_1:Int):Option (Txf):=
  if (kind_1 == 1)=true then
    some (Txf.mk true true true false false false false true false false false)
  else
    if (kind_1 == 2)=true then
      q4b F kind_1 (kind_1 == 2)
    else
      q4b F kind_1 (kind_1 == 3)
def q3m (F:Nat) (p_1:Tx4):Option (Bool):=
  (q22 F p_1.Kind).bind fun x_2=>
  (if ((((!x_2.Asked)&&(p_1.Asked != 0))||((!x_2.Handle)&&(p_1.Handle != 0)))||((!x_2.Last)&&(p_1.Last != 0)))=true then
    some (true)
  else
    if (!x_2.fT)=true then
      some ((!((p_1.fT.High == 0)&&(p_1.fT.Low == 0))))
    else
      some (false)).bind fun z_4=>
  if (z_4||((!x_2.Offset)&&(p_1.Offset != 0)))=true then
    some false
  else
    if ((((!x_2.MTU)&&(p_1.MTU != 0))||((!x_2.Code)&&(p_1.Code != 0)))||((!x_2.Commit)&&p_1.Commit))=true then
      some false
    else
      some ((x_2.Value||((len p_1.Value) == 0))&&(x_2.List||((len p_1.List) == 0)))
def q4y (_:Nat) (x_2:Tx3) (l_6:(List Int)):Option ((List Int)):=
  (app 1 l_6 x_2.Value).bind fun l_7=>
  some l_7
def qs (F:Nat) (kind_1:Int) (x_2:Tx3):Option ((List Int)):=
  (qb F (wu64 x_2.Handle) 2).bind fun x_3=>
  if (kind_1 == 5)=true then
    (qt F x_2.fT).bind fun x_4=>
    (app 1 x_3 x_4).bind fun l_5=>
    some l_5
  else
    if (kind_1 == 17)=true then
      (qb F (wu64 x_2.Last) 2).bind fun x_8=>
      (app 1 x_3 x_8).bind fun l_9=>
      q4y F x_2 l_9
    else
      q4y F x_2 x_3
def q6f (_:Nat) (z_8:Bool):Option (Int):=
  if z_8=true then
    some 11
  else
    some 0
def q4c (F:Nat) (kind_1:Int) (l_2:(List Tx3)) (x_4:Tx3) (z_7:Bool):Option (Int):=
  if z_7=true then
    some 13
  else
    (idx l_2 0).bind fun x_9=>
    (qs F kind_1 x_4).bind fun x_12=>
    (qs F kind_1 x_9).bind fun x_653=>
    q6f F ((len x_12) != (len x_653))
def q3n (F:Nat) (kind_1:Int) (l_2:(List Tx3)) (i_3:Int):Option (Int):=
  (idx l_2 i_3).bind fun x_4=>
  (if (!(kind_1 == 5))=true then
    some ((!((x_4.fT.High == 0)&&(x_4.fT.Low == 0))))
  else
    some (false)).bind fun z_6=>
  if ((z_6||((kind_1 == 5)&&(decide ((len x_4.Value) > 0))))||((!(kind_1 == 17))&&(x_4.Last != 0)))=true then
    some 1
  else
    if (x_4.Handle == 0)=true then
      some 5
    else
      if (decide (i_3 > 0))=true then
        (idx l_2 (w64 (i_3 - 1))).bind fun x_1616=>
        (idx l_2 (w64 (i_3 - 1))).bind fun x_2096=>
        q4c F kind_1 l_2 x_4 ((decide (x_4.Handle≤(imax x_1616.Handle x_2096.Last)))||((kind_1 == 17)&&(decide (x_4.Last<x_4.Handle))))
      else
        q4c F kind_1 l_2 x_4 (false||((kind_1 == 17)&&(decide (x_4.Last<x_4.Handle))))
def q6g (_:Nat) (p_1:Tx4) (x_2:Int):Option (Int):=
  if ((decide (x_2 > 255))||(decide ((w64 (2+(w64 (x_2 * (len p_1.List))))) > 517)))=true then
    some 4
  else
    some 0
def q6h (F:Nat) (p_1:Tx4):Option (Int):=
  (idx p_1.List 0).bind fun x_3=>
  (qs F p_1.Kind x_3).bind fun x_6=>
  q6g F p_1 (len x_6)
def q2r (F:Nat) (p_1:Tx4) (x_7:Int):Option (Out (Int) (Sum (Unit) (Int))):=
  if (decide (x_7<(len p_1.List)))=true then
    (q3n F p_1.Kind p_1.List x_7).bind fun x_8=>
    if (x_8 != 0)=true then
      some (.done (.inr x_8))
    else
      some (.next (w64 (x_7+1)))
  else
    some (.done (.inl ()))
def q3o (F:Nat) (p_1:Tx4):Option (Int):=
  if ((len p_1.List) == 0)=true then
    some 1
  else
    (iter (fun s=>q2r F p_1 s) F (0)).bind fun o=>
    match o with
    | .inl _=>q6h F p_1
    | .inr u=>some u
def q3p (F:Nat) (p_1:Tx4):Option (Int):=
  (q22 F p_1.Kind).bind fun x_2=>
  if (!x_2.Known)=true then
    some 12
  else
    (q3m F p_1).bind fun x_3=>
    if (!x_3)=true then
      some 1
    else
      if (x_2.Asked&&((decide (p_1.Asked<0))||(decide (p_1.Asked > 255))))=true then
        some 5
      else
        if ((x_2.Handle&&(p_1.Handle == 0))&&(p_1.Kind != 1))=true then
          some 5
        else
          if (x_2.Last&&(decide (p_1.Last<p_1.Handle)))=true then
            some 13
          else
            if (x_2.Offset&&((decide (p_1.Offset<0))||(decide (p_1.Offset > 65535))))=true then
              some 5
            else
              if (x_2.MTU&&((decide (p_1.MTU<23))||(decide (p_1.MTU > 517))))=true then
                some 5
              else
                if (x_2.Code&&((decide (p_1.Code<1))||(decide (p_1.Code > 255))))=true then
                  some 5
                else
                  if (decide ((len p_1.Value) > 512))=true then
                    some 4
                  else
                    if x_2.List=true then
                      (q3o F p_1).bind fun x_4=>
                      some x_4
                    else
                      some 0
def q6i (F:Nat) (handle_2:Int) (value_3:(List Int)) (l_4:(List Tx1)):Option ((List Tx1)×Int):=
  (qe F l_4 handle_2).bind fun x_5=>
  if (decide (x_5<0))=true then
    some (l_4,6)
  else
    (idx l_4 x_5).bind fun x_6=>
    (q1i F x_6.fT).bind fun x_7=>
    if x_7=true then
      some (l_4,14)
    else
      if (decide ((len value_3) > 512))=true then
        some (l_4,4)
      else
        (q5 F [value_3]).bind fun x_8=>
        (idx l_4 x_5).bind fun x_9=>
        (upd l_4 x_5 ({ x_9 with Value:=x_8 })).bind fun l_10=>
        some (l_10,0)
def q23 (F:Nat) (db_1:(List Tx1)) (l_11:(List Tx1)) (x_12:Int):Option (Out ((List Tx1)×Int) ((List Tx1))):=
  if (decide (x_12<(len db_1)))=true then
    (idx db_1 x_12).bind fun x_13=>
    (q20 F x_13).bind fun x_14=>
    (app 56 l_11 [x_14]).bind fun l_15=>
    some (.next (l_15,w64 (x_12+1)))
  else
    some (.done (l_11))
def q2s (F:Nat) (db_1:(List Tx1)) (handle_2:Int) (value_3:(List Int)):Option ((List Tx1)×Int):=
  (iter (fun s=>q23 F db_1 s.1 s.2) F ([],0)).bind fun o=>
  q6i F handle_2 value_3 o
def q6j (_:Nat) (x_4:Txc) (x_5:(List Tx1)×Int) (l_8:(List Tx4)):Option (Txa×Int):=
  some ({ x_4.Sv with DB:=x_5.1,Out:=l_8 },0)
def q4d (F:Nat) (handle_2:Int) (value_3:(List Int)) (x_4:Txc) (x_5:(List Tx1)×Int) (x_7:Int):Option (Txa×Int):=
  (q5 F [value_3]).bind fun x_811=>
  (app 120 x_4.Sv.Out [(Tx4.mk x_7 0 handle_2 0 (Tx0.mk 0 0) 0 0 0 false x_811 [])]).bind fun l_1051=>
  q6j F x_4 x_5 l_1051
def q3q (F:Nat) (s_1:Txa) (handle_2:Int) (value_3:(List Int)):Option (Txa×Int):=
  (qm F s_1).bind fun x_4=>
  (q2s F x_4.Sv.DB handle_2 value_3).bind fun x_5=>
  if (x_5.2 != 0)=true then
    some (x_4.Sv,x_5.2)
  else
    (qn F x_4 handle_2).bind fun x_6=>
    if ((decide (x_6≥0))&&(decide ((len x_4.Sv.Out)≥64)))=true then
      some (x_4.Sv,8)
    else
      if (decide (x_6<0))=true then
        some ({ x_4.Sv with DB:=x_5.1 },0)
      else
        (idx x_4.Sv.Subs x_6).bind fun x_1531=>
        if ((iand .i64 x_1531.Bits 1) != 0)=true then
          q4d F handle_2 value_3 x_4 x_5 27
        else
          q4d F handle_2 value_3 x_4 x_5 29
def q6k (_:Nat) (x_3:Txc) (x_6:Tx4) (l_7:(List Tx4)) (l_8:(List Int)) (c_11:Txc):Option (Txa×Tx4×Bool):=
  some ({ x_3.Sv with Out:=l_7,Wait:=c_11.Sv.Wait,Since:=c_11.Sv.Since },{ x_6 with Value:=l_8 },true)
def q4z (F:Nat) (x_3:Txc) (x_6:Tx4) (l_7:(List Tx4)) (l_8:(List Int)) (c_11:Txc):Option (Txa×Tx4×Bool):=
  q6k F x_3 x_6 l_7 l_8 c_11
def q6l (F:Nat) (now_2:Int) (x_3:Txc) (x_6:Tx4) (l_7:(List Tx4)) (l_8:(List Int)):Option (Txa×Tx4×Bool):=
  if (x_6.Kind == 29)=true then
    q4z F x_3 x_6 l_7 l_8 ({ x_3 with Sv:={ x_3.Sv with Out:=l_7,Wait:=true,Since:=now_2 } })
  else
    q4z F x_3 x_6 l_7 l_8 ({ x_3 with Sv:={ x_3.Sv with Out:=l_7 } })
def q3r (F:Nat) (s_1:Txa) (now_2:Int):Option (Txa×Tx4×Bool):=
  (qm F s_1).bind fun x_3=>
  (if ((len x_3.Sv.Out) == 0)=true then
    some (true)
  else
    (idx x_3.Sv.Out 0).bind fun x_1137=>
    if (x_1137.Kind == 29)=true then
      some (x_3.Sv.Wait)
    else
      some (false)).bind fun z_5=>
  if z_5=true then
    some (x_3.Sv,(Tx4.mk 0 0 0 0 (Tx0.mk 0 0) 0 0 0 false [] []),false)
  else
    (idx x_3.Sv.Out 0).bind fun x_6=>
    (sub x_3.Sv.Out 1 (len x_3.Sv.Out)).bind fun l_7=>
    (qf F x_6.Kind x_3.Sv.MTU).bind fun x_736=>
    (q10 F x_6.Value x_736).bind fun x_816=>
    q6l F now_2 x_3 x_6 l_7 x_816
def q50 (F:Nat):Option (Bool):=
  (q1a F).bind fun x_6=>
  some x_6
def q24 (_:Nat) (x_20:Int) (c_32:Txa) (z_33:Bool):Option (Out (Txa×Bool×Int) (Sum (Unit) (Bool))):=
  some (.next (c_32,z_33,w64 (x_20+1)))
def q51 (F:Nat) (x_20:Int) (x_2124:Txa×Tx4×Bool) (z_2125:Bool):Option (Out (Txa×Bool×Int) (Sum (Unit) (Bool))):=
  q24 F x_20 x_2124.1 z_2125
def q2t (F:Nat) (x_1:Tx6) (c_18:Txa) (z_19:Bool) (x_20:Int):Option (Out (Txa×Bool×Int) (Sum (Unit) (Bool))):=
  if (decide (x_20<(len x_1.Steps)))=true then
    (idx x_1.Steps x_20).bind fun x_34=>
    if (x_34.Call == 0)=true then
      (q3p F x_34.PDU).bind fun x_35=>
      if (x_35 == 0)=true then
        (qi F c_18 x_34.PDU 0).bind fun x_36=>
        q24 F x_20 x_36.1 (z_19&&(x_34.PDU.Kind != 30))
      else
        q24 F x_20 c_18 z_19
    else
      if (x_34.Call == 1)=true then
        (q3q F c_18 x_34.Handle x_34.Value).bind fun x_37=>
        q24 F x_20 x_37.1 z_19
      else
        if (x_34.Call == 3)=true then
          if ((remp x_34.Other 2) == 0)=true then
            (q11 F c_18 x_1.DBs.1).bind fun x_601=>
            q24 F x_20 x_601.1 z_19
          else
            if ((remp x_34.Other 2) == 1)=true then
              (q11 F c_18 x_1.DBs.2).bind fun x_1644=>
              q24 F x_20 x_1644.1 z_19
            else
              none
        else
          (q3r F c_18 0).bind fun x_2124=>
          if (x_2124.2.2&&(x_2124.2.1.Kind == 29))=true then
            if z_19=true then
              some (.done (.inr false))
            else
              q51 F x_20 x_2124 true
          else
            q51 F x_20 x_2124 z_19
  else
    some (.done (.inl ()))
def q2u (F:Nat) (x_1:Tx6):Option (Bool):=
  (q2v F x_1).bind fun x_2=>
  if (!x_2)=true then
    (q1a F).bind fun x_3=>
    some x_3
  else
    (q1n F x_1.DBs.1 x_1.Max x_1.Level x_1.Robust x_1.Aware x_1.Subs).bind fun x_4=>
    if (x_4.2 != 0)=true then
      (q1a F).bind fun x_5=>
      some x_5
    else
      (iter (fun s=>q2t F x_1 s.1 s.2.1 s.2.2) F (x_4.1,false,0)).bind fun o=>
      match o with
      | .inl _=>q50 F
      | .inr u=>some u
end V
end Go.Proofs.YtoahakdkgefgiaaGreat
