/- Pure twins of the Go functions, wn by program. -/
import Derived.Test.YtoahakdkgefgiaaGreatPure
namespace Go.Proofs.YtoahakdkgefgiaaGreat
namespace V
structure Tx0 where
  High:Int
  Low:Int
structure Tx1 where
  Handle:Int
  fT:Tx0
  Perms:Int
  Value:(List Int)
structure Tx2 where
  Handle:Int
  Last:Int
  fT:Tx0
  Value:(List Int)
structure Tx3 where
  Kind:Int
  Asked:Int
  Handle:Int
  Last:Int
  fT:Tx0
  Offset:Int
  MTU:Int
  Code:Int
  Commit:Bool
  Value:(List Int)
  List:(List Tx2)
structure Tx4 where
  fT:Tx0
  Props:Int
  Perms:Int
  Value:(List Int)
  More:(List Tx1)
structure Tx5 where
  fT:Tx0
  Primary:Bool
  Chars:(List Tx4)
structure Tx6 where
  Handle:Int
  Bits:Int
structure Tx7 where
  Handle:Int
  Offset:Int
  Value:(List Int)
structure Tx8 where
  DB:(List Tx1)
  MTU:Int
  Max:Int
  Level:Int
  Queue:(List Tx7)
  Aware:Int
  Robust:Bool
  Subs:(List Tx6)
  Out:(List Tx3)
  Wait:Bool
  Since:Int
structure Tx9 where
  char:Bool
  config:Bool
structure Txa where
  Server:Tx8
  wn:(List Int)
structure Txb where
  Size:Int
  Value:Int
structure Txc where
  items:(List Tx2)
  room:Int
structure Txd where
  Known:Bool
  Asked:Bool
  Handle:Bool
  Last:Bool
  fT:Bool
  Offset:Bool
  MTU:Bool
  Code:Bool
  Commit:Bool
  Value:Bool
  List:Bool
def q6r (_:Nat) (db_1:(List Tx1)) (x_2:Int):Option (Bool):=
  some ((decide ((len db_1)≤80))&&(decide (x_2≤4096)))
def q2b (_:Nat) (db_1:(List Tx1)) (x_3:Int) (x_4:Int):Option (Out (Int×Int) (Sum (Int) (Bool))):=
  if ((decide (x_4<(len db_1)))&&(decide (x_4<80)))=true then
    (idx db_1 x_4).bind fun x_5=>
    if (decide ((len x_5.Value) > 4096))=true then
      some (.done (.inr false))
    else
      (idx db_1 x_4).bind fun x_6=>
      some (.next (w64 (x_3+(len x_6.Value)),w64 (x_4+1)))
  else
    some (.done (.inl (x_3)))
def q2x (F:Nat) (db_1:(List Tx1)):Option (Bool):=
  (iter (fun s=>q2b F db_1 s.1 s.2) F (0,0)).bind fun o=>
  match o with
  | .inl u=>q6r F db_1 u
  | .inr u=>some u
def qd (_:Nat) (n_1:Int):Option (Tx0):=
  some (Tx0.mk (wu64 ((wu64 ((wu64 n_1) * 4294967296))+4096)) 9223372588214596859)
def q6s (_:Nat) (z_3:Bool):Option (Bool):=
  some z_3
def qe (F:Nat) (t_1:Tx0) (n_2:Int):Option (Bool):=
  (qd F n_2).bind fun x_6=>
  q6s F ((t_1.High == x_6.High)&&(t_1.Low == x_6.Low))
def q2c (F:Nat) (t_1:Tx0):Option (Bool):=
  (qe F t_1 10240).bind fun x_2=>
  (if x_2=true then
    some (true)
  else
    (qe F t_1 10241).bind fun x_14=>
    some (x_14)).bind fun z_4=>
  (if z_4=true then
    some (true)
  else
    (qe F t_1 10242).bind fun x_12=>
    some (x_12)).bind fun z_6=>
  (if z_6=true then
    some (true)
  else
    (qe F t_1 10243).bind fun x_10=>
    some (x_10)).bind fun z_8=>
  some z_8
def q2d (F:Nat) (t_1:Tx0):Option (Bool):=
  (q2c F t_1).bind fun x_2=>
  (if x_2=true then
    some (true)
  else
    (qe F t_1 10498).bind fun x_6=>
    some (x_6)).bind fun z_4=>
  some z_4
def q2y (F:Nat) (t_1:Tx0) (props_2:Int) (perms_3:Int) (value_4:(List Int)):Option (Int):=
  (q2d F t_1).bind fun x_5=>
  if x_5=true then
    some 1
  else
    if ((((decide (props_2<0))||(decide (props_2 > 255)))||(decide (perms_3<0)))||(decide (perms_3 > 15)))=true then
      some 5
    else
      if (decide ((len value_4) > 512))=true then
        some 4
      else
        some 0
def q6t (_:Nat) (x_2:Int):Option (Int×Int):=
  some (x_2,0)
def q6u (_:Nat) (x_4:Int) (x_5:Int):Option (Out (Int×Int) (Sum (Int) (Int×Int))):=
  some (.next (x_5,w64 (x_4+1)))
def q6v (_:Nat) (x_7:Int) (x_9:Int):Option (Out (Int×Int) (Sum (Int) (Int×Int))):=
  some (.next (x_9,w64 (x_7+1)))
def q6w (_:Nat) (x_14:Int) (x_15:Int):Option (Out (Int) (Sum (Int) (Int×Int))):=
  if (x_15 != 0)=true then
    some (.done (.inr (0,x_15)))
  else
    some (.next (w64 (x_14+1)))
def q57 (F:Nat) (x_11:Tx4) (x_13:Int) (x_14:Int):Option (Out (Int) (Sum (Int) (Int×Int))):=
  if (decide (x_14<(len x_11.More)))=true then
    (idx x_11.More x_14).bind fun x_16=>
    (idx x_11.More x_14).bind fun x_17=>
    (idx x_11.More x_14).bind fun x_18=>
    (q2y F x_16.fT 0 x_17.Perms x_18.Value).bind fun x_21=>
    q6w F x_14 x_21
  else
    some (.done (.inl (x_13)))
def q58 (F:Nat) (x_7:Int) (x_11:Tx4) (x_13:Int):Option (Out (Int×Int) (Sum (Int) (Int×Int))):=
  (iter (fun s=>q57 F x_11 x_13 s) F (0)).bind fun o=>
  match o with
  | .inl u=>q6v F x_7 u
  | .inr u=>some (.done (.inr u))
def q59 (F:Nat) (l_1:(List Tx5)) (x_4:Int) (x_6:Int) (x_7:Int):Option (Out (Int×Int) (Sum (Int) (Int×Int))):=
  (idx l_1 x_4).bind fun x_8=>
  if (decide (x_7<(len x_8.Chars)))=true then
    (idx l_1 x_4).bind fun x_10=>
    (idx x_10.Chars x_7).bind fun x_11=>
    (q2y F x_11.fT x_11.Props x_11.Perms x_11.Value).bind fun x_12=>
    if (x_12 != 0)=true then
      some (.done (.inr (0,x_12)))
    else
      if ((iand .i64 x_11.Props 48) != 0)=true then
        q58 F x_7 x_11 (w64 ((w64 ((w64 (x_6+2))+(len x_11.More)))+1))
      else
        q58 F x_7 x_11 (w64 ((w64 (x_6+2))+(len x_11.More)))
  else
    some (.done (.inl (x_6)))
def q5a (F:Nat) (l_1:(List Tx5)) (x_3:Int) (x_4:Int):Option (Out (Int×Int) (Sum (Int) (Int×Int))):=
  if (decide (x_4<(len l_1)))=true then
    (iter (fun s=>q59 F l_1 x_4 s.1 s.2) F (w64 (x_3+1),0)).bind fun o=>
    match o with
    | .inl u=>q6u F x_4 u
    | .inr u=>some (.done (.inr u))
  else
    some (.done (.inl (x_3)))
def q4k (F:Nat) (l_1:(List Tx5)):Option (Int×Int):=
  (iter (fun s=>q5a F l_1 s.1 s.2) F (0,0)).bind fun o=>
  match o with
  | .inl u=>q6t F u
  | .inr u=>some u
def q4l (_:Nat) (u_1:Tx0) (z_2:Bool):Option (Int×Bool):=
  if z_2=true then
    some (0,false)
  else
    some (wu16 (quop .u64 u_1.High 4294967296),true)
def q19 (F:Nat) (u_1:Tx0):Option (Int×Bool):=
  if (decide ((quop .u64 u_1.High 4294967296) > 65535))=true then
    q4l F u_1 true
  else
    (qd F (wu16 (quop .u64 u_1.High 4294967296))).bind fun x_6=>
    q4l F u_1 (!((x_6.High == u_1.High)&&(x_6.Low == u_1.Low)))
def q5b (_:Nat) (l_3:(List Int)):Option ((List Int)):=
  some l_3
def q1l (_:Nat) (size_2:Int) (x_4:Int) (l_5:(List Int)) (x_6:Int):Option (Out (Int×(List Int)×Int) ((List Int))):=
  if (decide (x_6<size_2))=true then
    (app 1 l_5 [wu8 (remp x_4 256)]).bind fun l_7=>
    some (.next ((quop .u64 x_4 256),l_7,w64 (x_6+1)))
  else
    some (.done (l_5))
def q9 (F:Nat) (n_1:Int) (size_2:Int):Option ((List Int)):=
  (iter (fun s=>q1l F size_2 s.1 s.2.1 s.2.2) F (n_1,[],0)).bind fun o=>
  q5b F o
def q6x (_:Nat) (l_4:(List Int)):Option ((List Int)):=
  some l_4
def qu (F:Nat) (u_1:Tx0):Option ((List Int)):=
  (q19 F u_1).bind fun x_2=>
  if x_2.2=true then
    (q9 F (wu64 x_2.1) 2).bind fun x_3=>
    some x_3
  else
    (q9 F u_1.Low 8).bind fun x_7=>
    (q9 F u_1.High 8).bind fun x_8=>
    (app 1 x_7 x_8).bind fun l_9=>
    q6x F l_9
def q6y (_:Nat) (l_6:(List Tx1)):Option ((List Tx1)):=
  some l_6
def qw (F:Nat) (db_1:(List Tx1)) (first_2:Int) (t_3:Tx0) (perms_4:Int) (value_5:(List Int)):Option ((List Tx1)):=
  (app 1 ([]:(List Int)) value_5).bind fun l_809=>
  (app 56 db_1 [(Tx1.mk (wu16 (first_2+(wu16 (len db_1)))) t_3 perms_4 l_809)]).bind fun l_1049=>
  q6y F l_1049
def q6z (_:Nat) (l_8:(List Tx1)):Option ((List Tx1)):=
  some l_8
def q5c (F:Nat) (first_2:Int) (c_3:Tx4) (l_9:(List Tx1)) (x_10:Int):Option (Out ((List Tx1)×Int) ((List Tx1))):=
  if (decide (x_10<(len c_3.More)))=true then
    (idx c_3.More x_10).bind fun x_11=>
    (idx c_3.More x_10).bind fun x_12=>
    (idx c_3.More x_10).bind fun x_13=>
    (qw F l_9 first_2 x_11.fT x_12.Perms x_13.Value).bind fun x_16=>
    some (.next (x_16,w64 (x_10+1)))
  else
    some (.done (l_9))
def q5d (F:Nat) (first_2:Int) (c_3:Tx4) (l_7:(List Tx1)):Option ((List Tx1)):=
  (iter (fun s=>q5c F first_2 c_3 s.1 s.2) F (l_7,0)).bind fun o=>
  q6z F o
def q70 (F:Nat) (first_2:Int) (c_3:Tx4) (l_5:(List Tx1)):Option ((List Tx1)):=
  (qw F l_5 first_2 c_3.fT c_3.Perms c_3.Value).bind fun x_6=>
  if ((iand .i64 c_3.Props 48) != 0)=true then
    (qd F 10498).bind fun x_17=>
    (qw F x_6 first_2 x_17 3 [0,0]).bind fun x_18=>
    q5d F first_2 c_3 x_18
  else
    q5d F first_2 c_3 x_6
def q71 (F:Nat) (db_1:(List Tx1)) (first_2:Int) (c_3:Tx4) (l_4:(List Int)):Option ((List Tx1)):=
  (qd F 10243).bind fun x_21=>
  (qu F c_3.fT).bind fun x_22=>
  (app 1 l_4 x_22).bind fun l_23=>
  (qw F db_1 first_2 x_21 1 l_23).bind fun x_24=>
  q70 F first_2 c_3 x_24
def q4m (F:Nat) (db_1:(List Tx1)) (first_2:Int) (c_3:Tx4):Option ((List Tx1)):=
  (q9 F (wu64 (w64 ((w64 ((w64 first_2)+(len db_1)))+1))) 2).bind fun x_907=>
  (app 1 [wu8 c_3.Props] x_907).bind fun l_987=>
  q71 F db_1 first_2 c_3 l_987
def q72 (_:Nat) (l_4:(List Tx1)):Option ((List Tx1)×Int):=
  some (l_4,0)
def q73 (_:Nat) (x_6:Int) (l_7:(List Tx1)):Option (Out ((List Tx1)×Int) ((List Tx1))):=
  some (.next (l_7,w64 (x_6+1)))
def q5e (F:Nat) (l_1:(List Tx5)) (first_2:Int) (x_6:Int) (l_10:(List Tx1)) (x_11:Int):Option (Out ((List Tx1)×Int) ((List Tx1))):=
  (idx l_1 x_6).bind fun x_12=>
  if (decide (x_11<(len x_12.Chars)))=true then
    (idx l_1 x_6).bind fun x_13=>
    (idx x_13.Chars x_11).bind fun x_14=>
    (q4m F l_10 first_2 x_14).bind fun x_15=>
    some (.next (x_15,w64 (x_11+1)))
  else
    some (.done (l_10))
def q74 (F:Nat) (l_1:(List Tx5)) (first_2:Int) (x_6:Int) (l_9:(List Tx1)):Option (Out ((List Tx1)×Int) ((List Tx1))):=
  (iter (fun s=>q5e F l_1 first_2 x_6 s.1 s.2) F (l_9,0)).bind fun o=>
  q73 F x_6 o
def q5f (F:Nat) (l_1:(List Tx5)) (first_2:Int) (l_5:(List Tx1)) (x_6:Int) (x_8:Int):Option (Out ((List Tx1)×Int) ((List Tx1))):=
  (idx l_1 x_6).bind fun x_16=>
  (qd F x_8).bind fun x_19=>
  (qu F x_16.fT).bind fun x_20=>
  (qw F l_5 first_2 x_19 1 x_20).bind fun x_21=>
  q74 F l_1 first_2 x_6 x_21
def q5g (F:Nat) (l_1:(List Tx5)) (first_2:Int) (l_5:(List Tx1)) (x_6:Int):Option (Out ((List Tx1)×Int) ((List Tx1))):=
  if (decide (x_6<(len l_1)))=true then
    (idx l_1 x_6).bind fun x_22=>
    if x_22.Primary=true then
      q5f F l_1 first_2 l_5 x_6 10240
    else
      q5f F l_1 first_2 l_5 x_6 10241
  else
    some (.done (l_5))
def q4n (F:Nat) (l_1:(List Tx5)) (first_2:Int):Option ((List Tx1)×Int):=
  if (first_2 == 0)=true then
    some ([],5)
  else
    (q4k F l_1).bind fun x_3=>
    if (x_3.2 != 0)=true then
      some ([],x_3.2)
    else
      if (decide (x_3.1 > 1000))=true then
        some ([],4)
      else
        if (decide ((w64 ((w64 ((w64 first_2)+x_3.1)) - 1)) > 65535))=true then
          some ([],8)
        else
          (iter (fun s=>q5g F l_1 first_2 s.1 s.2) F ([],0)).bind fun o=>
          q72 F o
def q2e (F:Nat) (t_1:Int):Option ((List Tx1)):=
  (qd F 6159).bind fun x_2=>
  (qd F t_1).bind fun x_3=>
  (q4n F [(Tx5.mk x_2 true [(Tx4.mk x_3 2 1 [50] [])])] 1).bind fun x_4=>
  some x_4.1
def q5h (_:Nat) (u_1:Tx0):Option ((Int×Int×Int×Int×Int×Int×Int×Int×Int×Int×Int×Int×Int×Int×Int×Int)):=
  some (wu8 (shrp u_1.Low 0),wu8 (shrp u_1.Low 8),wu8 (shrp u_1.Low 16),wu8 (shrp u_1.Low 24),wu8 (shrp u_1.Low 32),wu8 (shrp u_1.Low 40),wu8 (shrp u_1.Low 48),wu8 (shrp u_1.Low 56),wu8 (shrp u_1.High 0),wu8 (shrp u_1.High 8),wu8 (shrp u_1.High 16),wu8 (shrp u_1.High 24),wu8 (shrp u_1.High 32),wu8 (shrp u_1.High 40),wu8 (shrp u_1.High 48),wu8 (shrp u_1.High 56))
def q5i (F:Nat) (u_1:Tx0):Option ((Int×Int×Int×Int×Int×Int×Int×Int×Int×Int×Int×Int×Int×Int×Int×Int)):=
  q5h F u_1
def q5j (F:Nat) (u_1:Tx0):Option ((Int×Int×Int×Int×Int×Int×Int×Int×Int×Int×Int×Int×Int×Int×Int×Int)):=
  q5i F u_1
def q5k (F:Nat) (u_1:Tx0):Option ((Int×Int×Int×Int×Int×Int×Int×Int×Int×Int×Int×Int×Int×Int×Int×Int)):=
  q5j F u_1
def q5l (F:Nat) (u_1:Tx0):Option ((Int×Int×Int×Int×Int×Int×Int×Int×Int×Int×Int×Int×Int×Int×Int×Int)):=
  q5k F u_1
def q5m (F:Nat) (u_1:Tx0):Option ((Int×Int×Int×Int×Int×Int×Int×Int×Int×Int×Int×Int×Int×Int×Int×Int)):=
  q5l F u_1
def q5n (F:Nat) (u_1:Tx0):Option ((Int×Int×Int×Int×Int×Int×Int×Int×Int×Int×Int×Int×Int×Int×Int×Int)):=
  q5m F u_1
def q5o (F:Nat) (u_1:Tx0):Option ((Int×Int×Int×Int×Int×Int×Int×Int×Int×Int×Int×Int×Int×Int×Int×Int)):=
  q5n F u_1
def q5p (F:Nat) (u_1:Tx0):Option ((Int×Int×Int×Int×Int×Int×Int×Int×Int×Int×Int×Int×Int×Int×Int×Int)):=
  q5o F u_1
def q10 (F:Nat) (u_1:Tx0):Option ((Int×Int×Int×Int×Int×Int×Int×Int×Int×Int×Int×Int×Int×Int×Int×Int)):=
  q5p F u_1
def q5q (_:Nat) (x_2:(Int×Int×Int×Int×Int×Int×Int×Int×Int×Int×Int×Int×Int×Int×Int×Int)) (z_3:Bool):Option (Int×Bool):=
  if z_3=true then
    some (0,false)
  else
    some (ior .u16 (wu16 x_2.2.2.2.2.2.2.2.2.2.2.2.2.1) (shlp .u16 (wu16 x_2.2.2.2.2.2.2.2.2.2.2.2.2.2.1) 8),true)
def q12 (F:Nat) (u_1:Tx0):Option (Int×Bool):=
  (q10 F u_1).bind fun x_2=>
  (q10 F (Tx0.mk 4096 9223372588214596859)).bind fun x_6=>
  q5q F x_2 (!((x_2.1 == x_6.1)&&((x_2.2.1 == x_6.2.1)&&((x_2.2.2.1 == x_6.2.2.1)&&((x_2.2.2.2.1 == x_6.2.2.2.1)&&((x_2.2.2.2.2.1 == x_6.2.2.2.2.1)&&((x_2.2.2.2.2.2.1 == x_6.2.2.2.2.2.1)&&((x_2.2.2.2.2.2.2.1 == x_6.2.2.2.2.2.2.1)&&((x_2.2.2.2.2.2.2.2.1 == x_6.2.2.2.2.2.2.2.1)&&((x_2.2.2.2.2.2.2.2.2.1 == x_6.2.2.2.2.2.2.2.2.1)&&((x_2.2.2.2.2.2.2.2.2.2.1 == x_6.2.2.2.2.2.2.2.2.2.1)&&((x_2.2.2.2.2.2.2.2.2.2.2.1 == x_6.2.2.2.2.2.2.2.2.2.2.1)&&((x_2.2.2.2.2.2.2.2.2.2.2.2.1 == x_6.2.2.2.2.2.2.2.2.2.2.2.1)&&((0 == x_6.2.2.2.2.2.2.2.2.2.2.2.2.1)&&((0 == x_6.2.2.2.2.2.2.2.2.2.2.2.2.2.1)&&((x_2.2.2.2.2.2.2.2.2.2.2.2.2.2.2.1 == x_6.2.2.2.2.2.2.2.2.2.2.2.2.2.2.1)&&(x_2.2.2.2.2.2.2.2.2.2.2.2.2.2.2.2 == x_6.2.2.2.2.2.2.2.2.2.2.2.2.2.2.2)))))))))))))))))
def q75 (_:Nat):Option (Int):=
  some (-1)
def q1m (_:Nat) (s_1:(List Int)) (v_2:Int) (x_3:Int):Option (Out (Int) (Sum (Unit) (Int))):=
  if (decide (x_3<(len s_1)))=true then
    (idx s_1 x_3).bind fun x_4=>
    if (v_2 == x_4)=true then
      some (.done (.inr x_3))
    else
      some (.next (w64 (x_3+1)))
  else
    some (.done (.inl ()))
def q2z (F:Nat) (s_1:(List Int)) (v_2:Int):Option (Int):=
  (iter (fun s=>q1m F s_1 v_2 s) F (0)).bind fun o=>
  match o with
  | .inl _=>q75 F
  | .inr u=>some u
def q1n (F:Nat) (s_1:(List Int)) (v_2:Int):Option (Bool):=
  (q2z F s_1 v_2).bind fun x_3=>
  some (decide (x_3≥0))
def qf (F:Nat) (u_1:Tx0) (numbers_2:(List Int)):Option (Bool):=
  (q12 F u_1).bind fun x_3=>
  (if x_3.2=true then
    (q1n F numbers_2 x_3.1).bind fun x_7=>
    some (x_7)
  else
    some (false)).bind fun z_5=>
  some z_5
def qj (F:Nat) (u_1:Tx0):Option (Bool):=
  (qf F u_1 [10240,10241]).bind fun x_2=>
  some x_2
def q13 (F:Nat) (u_1:Tx0):Option (Bool):=
  (qj F u_1).bind fun x_2=>
  (if x_2=true then
    some (true)
  else
    (qf F u_1 [10242,10243]).bind fun x_6=>
    some (x_6)).bind fun z_4=>
  some z_4
def q1o (_:Nat) (n_1:Int):Option (Tx0):=
  some (Tx0.mk (ior .u64 (shlp .u64 (wu64 n_1) 32) 4096) 9223372588214596859)
def q76 (_:Nat) (c_4:Tx0):Option (Tx0×Int):=
  some (c_4,0)
def q5r (F:Nat) (c_12:Tx0):Option (Tx0×Int):=
  (q12 F c_12).bind fun x_13=>
  if x_13.2=true then
    some ((Tx0.mk 0 0),2)
  else
    some (c_12,0)
def q5s (_:Nat) (b_1:(List Int)) (c_16:Tx0) (x_17:Int) (x_18:Int):Option (Out (Tx0×Int) (Tx0)):=
  (idx b_1 (w64 (8+x_17))).bind fun x_19=>
  (ishl .u64 (wu64 x_19) (w64 (8 * x_17))).bind fun x_22=>
  some (.next ((Tx0.mk (ior .u64 c_16.High x_22) x_18),w64 (x_17+1)))
def q1p (F:Nat) (b_1:(List Int)) (c_16:Tx0) (x_17:Int):Option (Out (Tx0×Int) (Tx0)):=
  if (decide (x_17<8))=true then
    (idx b_1 x_17).bind fun x_23=>
    (ishl .u64 (wu64 x_23) (w64 (8 * x_17))).bind fun x_26=>
    q5s F b_1 c_16 x_17 (ior .u64 c_16.Low x_26)
  else
    some (.done (c_16))
def q1q (F:Nat) (b_1:(List Int)):Option (Tx0×Int):=
  if ((len b_1) == 2)=true then
    (idx b_1 0).bind fun x_5=>
    (idx b_1 1).bind fun x_6=>
    (q1o F (ior .u16 (wu16 x_5) (shlp .u16 (wu16 x_6) 8))).bind fun x_9=>
    q76 F x_9
  else
    if (decide ((len b_1)<16))=true then
      some ((Tx0.mk 0 0),3)
    else
      if (decide ((len b_1) > 16))=true then
        some ((Tx0.mk 0 0),2)
      else
        (iter (fun s=>q1p F b_1 s.1 s.2) F ((Tx0.mk 0 0),0)).bind fun o=>
        q5r F o
def q5t (_:Nat) (x_3:Tx0×Int) (x_4:Int) (x_5:Int):Option (Int×Int×Tx0×Bool):=
  some (x_4,x_5,x_3.1,true)
def q30 (F:Nat) (b_1:(List Int)):Option (Int×Int×Tx0×Bool):=
  if (decide ((len b_1)<3))=true then
    some (0,0,(Tx0.mk 0 0),false)
  else
    (sub b_1 3 (len b_1)).bind fun l_2=>
    (q1q F l_2).bind fun x_3=>
    if (x_3.2 != 0)=true then
      some (0,0,(Tx0.mk 0 0),false)
    else
      (idx b_1 0).bind fun x_6=>
      (idx b_1 1).bind fun x_7=>
      (idx b_1 2).bind fun x_8=>
      q5t F x_3 (w64 x_6) (ior .u16 (wu16 x_7) (shlp .u16 (wu16 x_8) 8))
def q31 (F:Nat) (u_1:Tx0):Option (Bool):=
  (q13 F u_1).bind fun x_2=>
  (if x_2=true then
    some (true)
  else
    (qf F u_1 [10498]).bind fun x_6=>
    some (x_6)).bind fun z_4=>
  some z_4
def q2f (_:Nat) (z_10:Bool):Option (Bool):=
  some z_10
def q3t (F:Nat) (db_1:(List Tx1)) (i_2:Int) (at_3:Tx9) (x_4:Tx1) (z_5:Bool):Option (Bool):=
  if z_5=true then
    some true
  else
    (qj F x_4.fT).bind fun x_6=>
    if x_6=true then
      (q1q F x_4.Value).bind fun x_7=>
      some (x_7.2 != 0)
    else
      (qf F x_4.fT [10243]).bind fun x_8=>
      if x_8=true then
        (q30 F x_4.Value).bind fun x_9=>
        if (!x_9.2.2.2)=true then
          if (true||(decide ((w64 (i_2+1))≥(len db_1))))=true then
            q2f F true
          else
            (idx db_1 (w64 (i_2+1))).bind fun x_15=>
            if (x_15.Handle != x_9.2.1)=true then
              q2f F true
            else
              (idx db_1 (w64 (i_2+1))).bind fun x_17=>
              q2f F (!((x_17.fT.High == x_9.2.2.1.High)&&(x_17.fT.Low == x_9.2.2.1.Low)))
        else
          (q31 F x_9.2.2.1).bind fun x_18=>
          if (x_18||(decide ((w64 (i_2+1))≥(len db_1))))=true then
            q2f F true
          else
            (idx db_1 (w64 (i_2+1))).bind fun x_20=>
            if (x_20.Handle != x_9.2.1)=true then
              q2f F true
            else
              (idx db_1 (w64 (i_2+1))).bind fun x_22=>
              q2f F (!((x_22.fT.High == x_9.2.2.1.High)&&(x_22.fT.Low == x_9.2.2.1.Low)))
      else
        (qf F x_4.fT [10498]).bind fun x_23=>
        if x_23=true then
          some ((((len x_4.Value) != 2)||(!at_3.char))||at_3.config)
        else
          some false
def q32 (F:Nat) (db_1:(List Tx1)) (i_2:Int) (at_3:Tx9):Option (Bool):=
  (idx db_1 i_2).bind fun x_4=>
  (if (i_2 == 0)=true then
    (qj F x_4.fT).bind fun x_28=>
    some ((!x_28))
  else
    some (false)).bind fun z_25=>
  if z_25=true then
    q3t F db_1 i_2 at_3 x_4 z_25
  else
    (q13 F x_4.fT).bind fun x_26=>
    q3t F db_1 i_2 at_3 x_4 (x_26&&((iand .i64 x_4.Perms 2) != 0))
def q77 (_:Nat):Option (Int):=
  some 0
def q33 (_:Nat) (x_6:Int) (x_7:Int) (c_10:Tx9):Option (Out (Int×Tx9×Int) (Sum (Unit) (Int))):=
  some (.next (x_7,c_10,w64 (x_6+1)))
def q2g (F:Nat) (db_1:(List Tx1)) (x_2:Int) (c_5:Tx9) (x_6:Int):Option (Out (Int×Tx9×Int) (Sum (Unit) (Int))):=
  if (decide (x_6<(len db_1)))=true then
    (idx db_1 x_6).bind fun x_11=>
    if (decide (x_11.Handle≤x_2))=true then
      some (.done (.inr 13))
    else
      if ((decide (x_11.Perms<0))||(decide (x_11.Perms > 15)))=true then
        some (.done (.inr 5))
      else
        if (decide ((len x_11.Value) > 512))=true then
          some (.done (.inr 4))
        else
          (q32 F db_1 x_6 c_5).bind fun x_12=>
          if x_12=true then
            some (.done (.inr 1))
          else
            (qj F x_11.fT).bind fun x_13=>
            if x_13=true then
              q33 F x_6 x_11.Handle (Tx9.mk false false)
            else
              (qf F x_11.fT [10243]).bind fun x_14=>
              if x_14=true then
                q33 F x_6 x_11.Handle (Tx9.mk true false)
              else
                (qf F x_11.fT [10498]).bind fun x_15=>
                if x_15=true then
                  q33 F x_6 x_11.Handle ({ c_5 with config:=true })
                else
                  q33 F x_6 x_11.Handle c_5
  else
    some (.done (.inl ()))
def q1r (F:Nat) (db_1:(List Tx1)):Option (Int):=
  if (decide ((len db_1) > 1000))=true then
    some 4
  else
    (iter (fun s=>q2g F db_1 s.1 s.2.1 s.2.2) F (0,(Tx9.mk false false),0)).bind fun o=>
    match o with
    | .inl _=>q77 F
    | .inr u=>some u
def q78 (_:Nat) (z_3:Bool):Option (Bool):=
  some z_3
def q8 (F:Nat) (u_1:Tx0) (n_2:Int):Option (Bool):=
  (q1o F n_2).bind fun x_6=>
  q78 F ((u_1.High == x_6.High)&&(u_1.Low == x_6.Low))
def q79 (_:Nat):Option (Int×Int×Bool):=
  some (0,0,false)
def q5u (_:Nat) (x_11:Int) (x_12:Int):Option (Out (Int) (Sum (Unit) (Int×Int×Bool))):=
  some (.done (.inr (x_11,x_12,true)))
def qk (F:Nat) (db_1:(List Tx1)) (x_3:Int):Option (Out (Int) (Sum (Unit) (Int×Int×Bool))):=
  (if (decide (x_3≥0))=true then
    (idx db_1 x_3).bind fun x_22=>
    (q8 F x_22.fT 10240).bind fun x_23=>
    some ((!x_23))
  else
    some (false)).bind fun z_5=>
  (if z_5=true then
    (idx db_1 x_3).bind fun x_19=>
    (q8 F x_19.fT 10241).bind fun x_20=>
    some ((!x_20))
  else
    some (false)).bind fun z_7=>
  if z_7=true then
    (idx db_1 x_3).bind fun x_8=>
    (idx db_1 x_3).bind fun x_9=>
    (q8 F x_9.fT 10243).bind fun x_10=>
    if (x_10&&(decide ((len x_8.Value) > 2)))=true then
      (idx x_8.Value 0).bind fun x_13=>
      (idx x_8.Value 1).bind fun x_14=>
      (idx x_8.Value 2).bind fun x_15=>
      q5u F (w64 x_13) (ior .u16 (wu16 x_14) (shlp .u16 (wu16 x_15) 8))
    else
      some (.next (w64 (x_3 - 1)))
  else
    some (.done (.inl ()))
def qr (F:Nat) (db_1:(List Tx1)) (i_2:Int):Option (Int×Int×Bool):=
  (iter (fun s=>qk F db_1 s) F (i_2)).bind fun o=>
  match o with
  | .inl _=>q79 F
  | .inr u=>some u
def q4o (_:Nat) (x_3:Int):Option (Int):=
  some x_3
def q4p (F:Nat) (props_1:Int) (x_2:Int):Option (Int):=
  if ((iand .i64 props_1 32) != 0)=true then
    q4o F (ior .i64 x_2 2)
  else
    q4o F x_2
def q1s (F:Nat) (props_1:Int):Option (Int):=
  if ((iand .i64 props_1 16) != 0)=true then
    q4p F props_1 (ior .i64 0 1)
  else
    q4p F props_1 0
def q7a (_:Nat):Option (Int×Bool):=
  some (0,false)
def q4q (_:Nat) (x_3:Int):Option (Out (Int) (Sum (Unit) (Int×Bool))):=
  some (.next (w64 (x_3+1)))
def q2h (F:Nat) (db_1:(List Tx1)) (handle_2:Int) (x_3:Int):Option (Out (Int) (Sum (Unit) (Int×Bool))):=
  if (decide (x_3<(len db_1)))=true then
    (idx db_1 x_3).bind fun x_4=>
    (q8 F x_4.fT 10498).bind fun x_5=>
    if (!x_5)=true then
      q4q F x_3
    else
      (qr F db_1 x_3).bind fun x_6=>
      if (x_6.2.2&&(x_6.2.1 == handle_2))=true then
        (q1s F x_6.1).bind fun x_7=>
        some (.done (.inr (x_7,true)))
      else
        q4q F x_3
  else
    some (.done (.inl ()))
def q14 (F:Nat) (db_1:(List Tx1)) (handle_2:Int):Option (Int×Bool):=
  (iter (fun s=>q2h F db_1 handle_2 s) F (0)).bind fun o=>
  match o with
  | .inl _=>q7a F
  | .inr u=>some u
def q7b (_:Nat) (l_2:(List Int)):Option ((List Int)):=
  some l_2
def qm (_:Nat) (parts_1:(List (List Int))) (l_3:(List Int)) (x_4:Int):Option (Out ((List Int)×Int) ((List Int))):=
  if (decide (x_4<(len parts_1)))=true then
    (idx parts_1 x_4).bind fun x_5=>
    (app 1 l_3 x_5).bind fun l_6=>
    some (.next (l_6,w64 (x_4+1)))
  else
    some (.done (l_3))
def q5 (F:Nat) (parts_1:(List (List Int))):Option ((List Int)):=
  (iter (fun s=>qm F parts_1 s.1 s.2) F ([],0)).bind fun o=>
  q7b F o
def q7c (_:Nat) (l_2:(List Tx1)):Option ((List Tx1)):=
  some l_2
def q1t (F:Nat) (db_1:(List Tx1)) (l_3:(List Tx1)) (x_4:Int):Option (Out ((List Tx1)×Int) ((List Tx1))):=
  if (decide (x_4<(len db_1)))=true then
    (idx db_1 x_4).bind fun x_5=>
    (q5 F [x_5.Value]).bind fun x_6=>
    (app 56 l_3 [{ x_5 with Value:=x_6 }]).bind fun l_7=>
    some (.next (l_7,w64 (x_4+1)))
  else
    some (.done (l_3))
def q6 (F:Nat) (db_1:(List Tx1)):Option ((List Tx1)):=
  (iter (fun s=>q1t F db_1 s.1 s.2) F ([],0)).bind fun o=>
  q7c F o
def qg (_:Nat) (s_1:(List Tx6)):Option ((List Tx6)):=
  (app 16 ([]:(List Tx6)) s_1).bind fun l_2=>
  some l_2
def q5v (F:Nat) (db_1:(List Tx1)) (max_2:Int) (level_3:Int) (robust_4:Bool) (aware_5:Int) (subs_6:(List Tx6)):Option (Tx8×Int):=
  (q6 F db_1).bind fun x_8=>
  (qg F subs_6).bind fun x_9=>
  some ((Tx8.mk x_8 23 max_2 level_3 [] aware_5 robust_4 x_9 [] false 0),0)
def q2i (F:Nat) (db_1:(List Tx1)) (subs_6:(List Tx6)) (x_10:Int) (x_11:Int):Option (Out (Int×Int) (Sum (Unit) (Tx8×Int))):=
  if (decide (x_11<(len subs_6)))=true then
    (idx subs_6 x_11).bind fun x_12=>
    (q14 F db_1 x_12.Handle).bind fun x_13=>
    if ((decide (x_11 > 0))&&(decide (x_12.Handle≤x_10)))=true then
      some (.done (.inr ((Tx8.mk [] 0 0 0 [] 0 false [] [] false 0),13)))
    else
      if (!x_13.2)=true then
        some (.done (.inr ((Tx8.mk [] 0 0 0 [] 0 false [] [] false 0),6)))
      else
        if ((x_12.Bits == 0)||((iandnot .i64 x_12.Bits x_13.1) != 0))=true then
          some (.done (.inr ((Tx8.mk [] 0 0 0 [] 0 false [] [] false 0),5)))
        else
          some (.next (x_12.Handle,w64 (x_11+1)))
  else
    some (.done (.inl ()))
def q1u (F:Nat) (db_1:(List Tx1)) (max_2:Int) (level_3:Int) (robust_4:Bool) (aware_5:Int) (subs_6:(List Tx6)):Option (Tx8×Int):=
  (q1r F db_1).bind fun x_7=>
  if (x_7 != 0)=true then
    some ((Tx8.mk [] 0 0 0 [] 0 false [] [] false 0),x_7)
  else
    if ((((((decide (max_2<23))||(decide (max_2 > 517)))||(decide (level_3<0)))||(decide (level_3 > 2)))||(decide (aware_5<0)))||(decide (aware_5 > 2)))=true then
      some ((Tx8.mk [] 0 0 0 [] 0 false [] [] false 0),5)
    else
      (iter (fun s=>q2i F db_1 subs_6 s.1 s.2) F (0,0)).bind fun o=>
      match o with
      | .inl _=>q5v F db_1 max_2 level_3 robust_4 aware_5 subs_6
      | .inr u=>some u
def q1a (_:Nat) (s_1:(List Tx7)):Option ((List Tx7)):=
  (app 40 ([]:(List Tx7)) s_1).bind fun l_2=>
  some l_2
def q2j (_:Nat) (s_1:(List Tx3)):Option ((List Tx3)):=
  (app 120 ([]:(List Tx3)) s_1).bind fun l_2=>
  some l_2
def q7d (_:Nat) (s_1:Tx8) (c_6:Tx8) (l_7:(List Tx7)) (l_8:(List Tx3)):Option (Txa):=
  some (Txa.mk ({ s_1 with DB:=c_6.DB,Queue:=l_7,Subs:=c_6.Subs,Out:=l_8 }) [])
def q1v (F:Nat) (c_6:Tx8) (l_9:(List Tx3)) (x_10:Int):Option (Out ((List Tx3)×Int) ((List Tx3))):=
  if (decide (x_10<(len c_6.Out)))=true then
    (idx l_9 x_10).bind fun x_11=>
    (q5 F [x_11.Value]).bind fun x_494=>
    (idx l_9 x_10).bind fun _=>
    (idx l_9 x_10).bind fun x_734=>
    (upd l_9 x_10 ({ x_734 with Value:=x_494 })).bind fun l_735=>
    some (.next (l_735,w64 (x_10+1)))
  else
    some (.done (l_9))
def q5w (F:Nat) (s_1:Tx8) (c_6:Tx8) (l_7:(List Tx7)):Option (Txa):=
  (iter (fun s=>q1v F c_6 s.1 s.2) F (c_6.Out,0)).bind fun o=>
  q7d F s_1 c_6 l_7 o
def q1w (F:Nat) (c_6:Tx8) (l_894:(List Tx7)) (x_895:Int):Option (Out ((List Tx7)×Int) ((List Tx7))):=
  if (decide (x_895<(len c_6.Queue)))=true then
    (idx l_894 x_895).bind fun x_896=>
    (q5 F [x_896.Value]).bind fun x_1379=>
    (idx l_894 x_895).bind fun _=>
    (idx l_894 x_895).bind fun x_1619=>
    (upd l_894 x_895 ({ x_1619 with Value:=x_1379 })).bind fun l_1620=>
    some (.next (l_1620,w64 (x_895+1)))
  else
    some (.done (l_894))
def q4r (F:Nat) (s_1:Tx8) (c_6:Tx8):Option (Txa):=
  (iter (fun s=>q1w F c_6 s.1 s.2) F (c_6.Queue,0)).bind fun o=>
  q5w F s_1 c_6 o
def q1x (F:Nat) (s_1:Tx8):Option (Txa):=
  (q6 F s_1.DB).bind fun x_1941=>
  (qg F s_1.Subs).bind fun x_2181=>
  (q1a F s_1.Queue).bind fun x_2421=>
  (q2j F s_1.Out).bind fun x_2661=>
  q4r F s_1 ({ s_1 with DB:=x_1941,Queue:=x_2421,Subs:=x_2181,Out:=x_2661 })
def q2k (F:Nat) (_:Txa):Option (Unit):=
  some ()
def q3u (_:Nat) (a_1:Tx1) (p_2:Int):Option (Bool×Int):=
  some ((a_1.Handle == p_2),p_2)
def q7e (_:Nat) (x_3:Int):Option (Int×Int):=
  some ((-1),x_3)
def q1y (F:Nat) (s_1:(List Tx1)) (x_4:Int) (x_5:Int):Option (Out (Int×Int) (Sum (Int) (Int×Int))):=
  if (decide (x_5<(len s_1)))=true then
    (idx s_1 x_5).bind fun x_6=>
    (q3u F x_6 x_4).bind fun x_7=>
    if x_7.1=true then
      some (.done (.inr (x_5,x_7.2)))
    else
      some (.next (x_7.2,w64 (x_5+1)))
  else
    some (.done (.inl (x_4)))
def q3v (F:Nat) (s_1:(List Tx1)) (c_2:Int):Option (Int×Int):=
  (iter (fun s=>q1y F s_1 s.1 s.2) F (c_2,0)).bind fun o=>
  match o with
  | .inl u=>q7e F u
  | .inr u=>some u
def qn (F:Nat) (db_1:(List Tx1)) (handle_2:Int):Option (Int):=
  (q3v F db_1 handle_2).bind fun x_3=>
  some x_3.1
def q1z (_:Nat) (x_1:Txa) (a_2:Tx1) (perm_3:Int) (code_4:Int):Option (Int):=
  if ((iand .i64 a_2.Perms perm_3) == 0)=true then
    some code_4
  else
    if (((iand .i64 a_2.Perms 8) != 0)&&(decide (x_1.Server.Level<2)))=true then
      some 5
    else
      if (((iand .i64 a_2.Perms 4) != 0)&&(decide (x_1.Server.Level<1)))=true then
        some 15
      else
        some 0
def q20 (F:Nat) (x_1:Txa) (handle_2:Int):Option (Int×Int×Txa):=
  (qn F x_1.Server.DB handle_2).bind fun x_3=>
  if (decide (x_3<0))=true then
    some (0,1,x_1)
  else
    (idx x_1.Server.DB x_3).bind fun x_4=>
    (q1z F x_1 x_4 2 3).bind fun x_5=>
    some (x_3,x_5,x_1)
def q7 (_:Nat) (p_1:Tx3) (handle_2:Int) (code_3:Int):Option (Tx3):=
  some (Tx3.mk 1 p_1.Kind handle_2 0 (Tx0.mk 0 0) 0 0 code_3 false [] [])
def q3w (_:Nat) (s_1:Tx6) (p_2:Int):Option (Bool×Int):=
  some ((s_1.Handle == p_2),p_2)
def q7f (_:Nat) (x_3:Int):Option (Int×Int):=
  some ((-1),x_3)
def q2l (F:Nat) (s_1:(List Tx6)) (x_4:Int) (x_5:Int):Option (Out (Int×Int) (Sum (Int) (Int×Int))):=
  if (decide (x_5<(len s_1)))=true then
    (idx s_1 x_5).bind fun x_6=>
    (q3w F x_6 x_4).bind fun x_7=>
    if x_7.1=true then
      some (.done (.inr (x_5,x_7.2)))
    else
      some (.next (x_7.2,w64 (x_5+1)))
  else
    some (.done (.inl (x_4)))
def q3x (F:Nat) (s_1:(List Tx6)) (c_2:Int):Option (Int×Int):=
  (iter (fun s=>q2l F s_1 s.1 s.2) F (c_2,0)).bind fun o=>
  match o with
  | .inl u=>q7f F u
  | .inr u=>some u
def q15 (F:Nat) (x_1:Txa) (handle_2:Int):Option (Int):=
  (q3x F x_1.Server.Subs handle_2).bind fun x_3=>
  some x_3.1
def q34 (_:Nat) (s_1:(List Tx6)) (i_2:Int) (j_3:Int):Option ((List Tx6)):=
  if 0≤i_2∧i_2≤j_3∧j_3≤(s_1.length:Int) then
    some (s_1.take i_2.toNat++s_1.drop j_3.toNat)
  else
    none
def q35 (_:Nat) (s_1:(List Tx6)) (i_2:Int) (v_3:(List Tx6)):Option ((List Tx6)):=
  if 0≤i_2∧i_2≤(s_1.length:Int)∧v_3.length=1∧(s_1.length+1) * 16≤140737488355328 then
    some (s_1.take i_2.toNat++v_3++s_1.drop i_2.toNat)
  else
    none
def q36 (_:Nat) (x_1:Txa) (l_4:(List Tx6)):Option (Txa):=
  some ({ x_1 with Server:={ x_1.Server with Subs:=l_4 } })
def q5x (F:Nat) (x_1:Txa) (handle_2:Int) (n_3:Int) (x_9:Int):Option (Txa):=
  (q35 F x_1.Server.Subs x_9 [(Tx6.mk handle_2 n_3)]).bind fun x_10=>
  q36 F x_1 x_10
def q2m (_:Nat) (x_1:Txa) (handle_2:Int) (x_11:Int):Option (Out (Int) (Int)):=
  (if (decide (x_11<(len x_1.Server.Subs)))=true then
    (idx x_1.Server.Subs x_11).bind fun x_15=>
    some (decide (x_15.Handle<handle_2))
  else
    some (false)).bind fun z_13=>
  if z_13=true then
    some (.next (w64 (x_11+1)))
  else
    some (.done (x_11))
def q37 (F:Nat) (x_1:Txa) (handle_2:Int) (n_3:Int):Option (Txa):=
  (q15 F x_1 handle_2).bind fun x_5=>
  if ((decide (x_5≥0))&&(n_3 == 0))=true then
    (q34 F x_1.Server.Subs x_5 (w64 (x_5+1))).bind fun x_6=>
    q36 F x_1 x_6
  else
    if (decide (x_5≥0))=true then
      (idx x_1.Server.Subs x_5).bind fun x_7=>
      (upd x_1.Server.Subs x_5 ({ x_7 with Bits:=n_3 })).bind fun l_8=>
      q36 F x_1 l_8
    else
      if (n_3 != 0)=true then
        (iter (fun s=>q2m F x_1 handle_2 s) F (0)).bind fun o=>
        q5x F x_1 handle_2 n_3 o
      else
        q36 F x_1 x_1.Server.Subs
def q4s (_:Nat) (p_2:Tx3) (c_16:Txa):Option (Tx3×Txa):=
  some ((Tx3.mk 19 0 0 0 (Tx0.mk 0 0) 0 0 0 false [] []),{ c_16 with wn:=[p_2.Handle] })
def q16 (F:Nat) (x_1:Txa) (p_2:Tx3):Option (Tx3×Txa):=
  (q20 F x_1 p_2.Handle).bind fun x_3=>
  if (x_3.2.1 != 0)=true then
    (q7 F p_2 p_2.Handle x_3.2.1).bind fun x_17=>
    some (x_17,x_3.2.2)
  else
    (idx x_3.2.2.Server.DB x_3.1).bind fun x_18=>
    (q8 F x_18.fT 10498).bind fun x_19=>
    if (x_19&&((len p_2.Value) != 2))=true then
      (q7 F p_2 p_2.Handle 13).bind fun x_20=>
      some (x_20,x_3.2.2)
    else
      (idx x_3.2.2.Server.DB x_3.1).bind fun x_21=>
      (q8 F x_21.fT 10498).bind fun x_22=>
      if x_22=true then
        (qr F x_3.2.2.Server.DB x_3.1).bind fun x_23=>
        if x_23.2.2=true then
          (idx p_2.Value 0).bind fun x_24=>
          (idx p_2.Value 1).bind fun x_25=>
          (q1s F x_23.1).bind fun x_28=>
          (q37 F x_3.2.2 x_23.2.1 (iand .i64 (ior .i64 (w64 x_24) (shlp .i64 (w64 x_25) 8)) x_28)).bind fun x_29=>
          q4s F p_2 x_29
        else
          q4s F p_2 x_3.2.2
      else
        (q5 F [p_2.Value]).bind fun x_752=>
        (idx x_3.2.2.Server.DB x_3.1).bind fun _=>
        (idx x_3.2.2.Server.DB x_3.1).bind fun x_992=>
        (upd x_3.2.2.Server.DB x_3.1 ({ x_992 with Value:=x_752 })).bind fun l_993=>
        q4s F p_2 ({ x_3.2.2 with Server:={ x_3.2.2.Server with DB:=l_993 } })
def q38 (_:Nat) (phase_1:Int) (hashRead_2:Bool):Option (Int×Bool):=
  if ((phase_1 == 0)&&(!hashRead_2))=true then
    some (1,true)
  else
    some (2,false)
def q21 (F:Nat) (x_1:Txa) (a_2:Tx1):Option (Int):=
  (q1z F x_1 a_2 1 2).bind fun x_3=>
  some x_3
def q3y (_:Nat) (n_1:Int):Option (Bool):=
  some ((decide (n_1≥1))&&(decide (n_1≤8)))
def q7g (_:Nat) (l_2:(List Int)):Option ((List Int)×Int):=
  some (l_2,0)
def q5y (_:Nat) (x_4:Int) (l_5:(List Int)):Option (Out ((List Int)×Int) (Sum ((List Int)) ((List Int)×Int))):=
  some (.next (l_5,w64 (x_4+1)))
def q1b (_:Nat) (x_6:Txb) (l_10:(List Int)) (x_11:Int):Option (Out ((List Int)×Int) ((List Int))):=
  if (decide (x_11<x_6.Size))=true then
    (ishr .u64 x_6.Value (w64 (8 * x_11))).bind fun x_12=>
    (app 1 l_10 [wu8 x_12]).bind fun l_13=>
    some (.next (l_13,w64 (x_11+1)))
  else
    some (.done (l_10))
def q22 (F:Nat) (fields_1:(List Txb)) (l_3:(List Int)) (x_4:Int):Option (Out ((List Int)×Int) (Sum ((List Int)) ((List Int)×Int))):=
  if (decide (x_4<(len fields_1)))=true then
    (idx fields_1 x_4).bind fun x_6=>
    (q3y F x_6.Size).bind fun x_7=>
    (if (!x_7)=true then
      some (true)
    else
      if (decide (x_6.Size<8))=true then
        (ishr .u64 x_6.Value (w64 (8 * x_6.Size))).bind fun x_16=>
        some ((x_16 != 0))
      else
        some (false)).bind fun z_9=>
    if z_9=true then
      some (.done (.inr ([],5)))
    else
      (iter (fun s=>q1b F x_6 s.1 s.2) F (l_3,0)).bind fun o=>
      q5y F x_4 o
  else
    some (.done (.inl (l_3)))
def q17 (F:Nat) (fields_1:(List Txb)):Option ((List Int)×Int):=
  (iter (fun s=>q22 F fields_1 s.1 s.2) F ([],0)).bind fun o=>
  match o with
  | .inl u=>q7g F u
  | .inr u=>some u
def qx (F:Nat) (size_1:Int) (n_2:Int):Option ((List Int)):=
  (q17 F [(Txb.mk size_1 n_2)]).bind fun x_3=>
  some x_3.1
def q1c (_:Nat) (n_1:Int) (bits_2:Int):Option (Int):=
  if (decide (bits_2≤0))=true then
    some 0
  else
    if (decide (bits_2≥64))=true then
      some n_1
    else
      (ishl .u64 1 bits_2).bind fun x_3=>
      some (iand .u64 n_1 (wu64 (x_3 - 1)))
def q39 (F:Nat) (x_1:Int):Option ((Int×Int)):=
  (q1c F x_1 32).bind fun x_2=>
  some (wu32 (shrp x_1 32),wu32 x_2)
def qt (_:Nat) (x_1:Int) (k_2:Int):Option (Int):=
  (ishl .u64 x_1 (iand .u64 (wu64 k_2) 63)).bind fun x_3=>
  (ishr .u64 x_1 (wu64 (64 - (iand .u64 (wu64 k_2) 63)))).bind fun x_4=>
  some (ior .u64 x_3 x_4)
def q23 (_:Nat) (x_1:Int) (k_2:Int):Option (Int):=
  (ishl .u32 x_1 (iand .u64 (wu64 k_2) 31)).bind fun x_3=>
  (ishr .u32 x_1 (wu64 (32 - (iand .u64 (wu64 k_2) 31)))).bind fun x_4=>
  some (ior .u32 x_3 x_4)
def qo (F:Nat) (k_1:Int) (i_2:Int) (half_3:Int):Option (Int):=
  (qt F k_1 (remp (w64 (11 * (remp i_2 64))) 64)).bind fun x_4=>
  (q1c F x_4 32).bind fun x_5=>
  (q23 F (wu32 (half_3+(wu32 x_5))) 7).bind fun x_6=>
  (q23 F (wu32 x_5) 16).bind fun x_7=>
  some (ixor .u32 (wu32 (x_6 * 2654435761)) x_7)
def q3z (_:Nat) (h_1:(Int×Int)):Option (Int):=
  some (ior .u64 (shlp .u64 (wu64 h_1.1) 32) (wu64 h_1.2))
def q5z (F:Nat) (x_4:Int) (x_5:Int):Option (Int):=
  (q3z F (x_4,x_5)).bind fun x_6=>
  some x_6
def q24 (F:Nat) (k_1:Int) (x_7:Int) (x_8:Int) (x_9:Int):Option (Out (Int×Int×Int) (Int×Int)):=
  if (decide (x_9<8))=true then
    (qo F k_1 x_9 x_8).bind fun x_652=>
    some (.next (x_8,ixor .u32 x_7 x_652,w64 (x_9+1)))
  else
    some (.done (x_7,x_8))
def q25 (F:Nat) (k_1:Int) (x_2:Int):Option (Int):=
  (q39 F x_2).bind fun x_3=>
  (iter (fun s=>q24 F k_1 s.1 s.2.1 s.2.2) F (x_3.1,x_3.2,0)).bind fun o=>
  q5z F o.1 o.2
def q60 (_:Nat) (x_7:Int) (x_8:Int):Option (Out (Int×Int) (Int)):=
  some (.next (x_8,w64 (x_7+8)))
def q7h (F:Nat) (k_1:Int) (x_6:Int) (x_9:Int):Option (Int):=
  (q25 F k_1 (ixor .u64 x_6 x_9)).bind fun x_11=>
  some x_11
def q61 (F:Nat) (k_1:Int) (x_6:Int) (x_7:Int) (x_9:Int):Option (Out (Int×Int) (Int)):=
  (q7h F k_1 x_6 x_9).bind fun o_10=>
  q60 F x_7 o_10
def q1d (_:Nat) (l_12:(List Int)) (x_13:Int) (x_14:Int):Option (Out (Int×Int) (Int)):=
  if (decide (x_14<(len l_12)))=true then
    (idx l_12 x_14).bind fun x_15=>
    (ishl .u64 (wu64 x_15) (w64 (8 * x_14))).bind fun x_16=>
    some (.next (ior .u64 x_13 x_16,w64 (x_14+1)))
  else
    some (.done (x_13))
def q2n (F:Nat) (k_1:Int) (b_2:(List Int)) (x_6:Int) (x_7:Int):Option (Out (Int×Int) (Int)):=
  if (decide (x_7<(len b_2)))=true then
    (sub b_2 x_7 (imin (w64 (x_7+8)) (len b_2))).bind fun l_12=>
    (iter (fun s=>q1d F l_12 s.1 s.2) F (0,0)).bind fun o=>
    q61 F k_1 x_6 x_7 o
  else
    some (.done (x_6))
def q7i (F:Nat) (k_1:Int) (b_2:(List Int)) (x_3:Int):Option (Int):=
  (iter (fun s=>q2n F k_1 b_2 s.1 s.2) F (x_3,0)).bind fun o=>
  some o
def q1e (F:Nat) (k_1:Int) (b_2:(List Int)):Option (Int):=
  (q25 F k_1 (wu64 (len b_2))).bind fun x_3=>
  (q7i F k_1 b_2 x_3).bind fun o_4=>
  some o_4
def q62 (F:Nat) (l_2:(List Txb)):Option ((List Int)):=
  (q17 F l_2).bind fun x_3=>
  some x_3.1
def q1f (_:Nat) (numbers_1:(List Int)) (l_4:(List Txb)) (x_5:Int):Option (Out ((List Txb)×Int) ((List Txb))):=
  if (decide (x_5<(len numbers_1)))=true then
    (idx numbers_1 x_5).bind fun x_6=>
    (app 16 l_4 [(Txb.mk 8 x_6)]).bind fun l_7=>
    some (.next (l_7,w64 (x_5+1)))
  else
    some (.done (l_4))
def q40 (F:Nat) (numbers_1:(List Int)):Option ((List Int)):=
  (iter (fun s=>q1f F numbers_1 s.1 s.2) F ([],0)).bind fun o=>
  q62 F o
def q3a (F:Nat) (k_1:Int) (label_2:List Int) (parts_3:(List Int)):Option (Int):=
  (app 1 ([]:List Int) label_2).bind fun l_4=>
  (q40 F parts_3).bind fun x_5=>
  (q5 F [l_4,[0],x_5]).bind fun x_6=>
  (q1e F k_1 x_6).bind fun x_7=>
  some x_7
def q63 (F:Nat) (l_2:(List Int)):Option (Int):=
  (q1e F 0 l_2).bind fun x_3=>
  (q3a F 0 [104,97,115,104] [x_3]).bind fun x_4=>
  some (imax 1 x_4)
def q41 (_:Nat) (x_6:Int) (l_7:(List Int)):Option (Out ((List Int)×Int) ((List Int))):=
  some (.next (l_7,w64 (x_6+1)))
def q64 (F:Nat) (x_6:Int) (x_8:Tx1) (l_9:(List Int)):Option (Out ((List Int)×Int) ((List Int))):=
  (q13 F x_8.fT).bind fun x_10=>
  if x_10=true then
    (qx F 2 (wu64 (len x_8.Value))).bind fun x_13=>
    (q5 F [x_13,x_8.Value]).bind fun x_14=>
    (app 1 l_9 x_14).bind fun l_15=>
    q41 F x_6 l_15
  else
    q41 F x_6 l_9
def q1g (F:Nat) (db_1:(List Tx1)) (l_5:(List Int)) (x_6:Int):Option (Out ((List Int)×Int) ((List Int))):=
  if (decide (x_6<(len db_1)))=true then
    (idx db_1 x_6).bind fun x_8=>
    (qx F 2 (wu64 x_8.Handle)).bind fun x_18=>
    (qx F 8 x_8.fT.Low).bind fun x_19=>
    (qx F 8 x_8.fT.High).bind fun x_20=>
    (q5 F [x_18,x_19,x_20]).bind fun x_21=>
    (app 1 l_5 x_21).bind fun l_22=>
    q64 F x_6 x_8 l_22
  else
    some (.done (l_5))
def q18 (F:Nat) (db_1:(List Tx1)):Option (Int):=
  (iter (fun s=>q1g F db_1 s.1 s.2) F ([],0)).bind fun o=>
  q63 F o
def q4t (_:Nat) (x_8:Int):Option ((List Int)):=
  some [wu8 x_8,wu8 (shrp x_8 8)]
def q26 (F:Nat) (x_1:Txa) (i_2:Int):Option ((List Int)):=
  (idx x_1.Server.DB i_2).bind fun x_3=>
  (q8 F x_3.fT 11050).bind fun x_4=>
  if x_4=true then
    (q18 F x_1.Server.DB).bind fun x_5=>
    (q17 F [(Txb.mk 8 x_5)]).bind fun x_6=>
    some x_6.1
  else
    (q8 F x_3.fT 10498).bind fun x_7=>
    if x_7=true then
      (qr F x_1.Server.DB i_2).bind fun x_9=>
      (if x_9.2.2=true then
        (q15 F x_1 x_9.2.1).bind fun x_17=>
        some (decide (x_17≥0))
      else
        some (false)).bind fun z_11=>
      if z_11=true then
        (q15 F x_1 x_9.2.1).bind fun x_14=>
        (idx x_1.Server.Subs x_14).bind fun x_15=>
        q4t F x_15.Bits
      else
        q4t F 0
    else
      (q5 F [x_3.Value]).bind fun x_18=>
      some x_18
def q3b (_:Nat) (kind_1:Int):Option (Int):=
  if (kind_1 == 2)=true then
    some 3
  else
    if (kind_1 == 4)=true then
      some 5
    else
      if (kind_1 == 8)=true then
        some 9
      else
        if (kind_1 == 10)=true then
          some 11
        else
          if (kind_1 == 12)=true then
            some 13
          else
            if (kind_1 == 16)=true then
              some 17
            else
              if (kind_1 == 18)=true then
                some 19
              else
                if (kind_1 == 22)=true then
                  some 23
                else
                  if (kind_1 == 24)=true then
                    some 25
                  else
                    if (kind_1 == 29)=true then
                      some 30
                    else
                      some (-1)
def q42 (_:Nat) (mtu_2:Int) (z_6:Bool):Option (Int):=
  if z_6=true then
    some (w64 ((imax 23 (imin mtu_2 517)) - 2))
  else
    some 0
def q4u (F:Nat) (kind_1:Int) (mtu_2:Int) (z_5:Bool):Option (Int):=
  if z_5=true then
    some (imin 512 (w64 ((imax 23 (imin mtu_2 517)) - 5)))
  else
    if (kind_1 == 5)=true then
      q42 F mtu_2 (kind_1 == 5)
    else
      if (kind_1 == 9)=true then
        q42 F mtu_2 (kind_1 == 9)
      else
        q42 F mtu_2 (kind_1 == 17)
def q3c (F:Nat) (kind_1:Int) (mtu_2:Int) (z_4:Bool):Option (Int):=
  if z_4=true then
    some (imin 512 (w64 ((imax 23 (imin mtu_2 517)) - 3)))
  else
    if (kind_1 == 22)=true then
      q4u F kind_1 mtu_2 (kind_1 == 22)
    else
      q4u F kind_1 mtu_2 (kind_1 == 23)
def q4v (F:Nat) (kind_1:Int) (mtu_2:Int) (z_3:Bool):Option (Int):=
  if z_3=true then
    some (imin 512 (w64 ((imax 23 (imin mtu_2 517)) - 1)))
  else
    if (kind_1 == 18)=true then
      q3c F kind_1 mtu_2 (kind_1 == 18)
    else
      if (kind_1 == 82)=true then
        q3c F kind_1 mtu_2 (kind_1 == 82)
      else
        if (kind_1 == 27)=true then
          q3c F kind_1 mtu_2 (kind_1 == 27)
        else
          q3c F kind_1 mtu_2 (kind_1 == 29)
def qh (F:Nat) (kind_1:Int) (mtu_2:Int):Option (Int):=
  if (kind_1 == 11)=true then
    q4v F kind_1 mtu_2 (kind_1 == 11)
  else
    q4v F kind_1 mtu_2 (kind_1 == 13)
def q27 (F:Nat) (b_1:(List Int)) (n_2:Int):Option ((List Int)):=
  (sub b_1 0 (imax 0 (imin n_2 (len b_1)))).bind fun l_3=>
  (q5 F [l_3]).bind fun x_4=>
  some x_4
def q65 (_:Nat) (x_9:Int) (l_11:(List Int)):Option (Tx3):=
  some (Tx3.mk x_9 0 0 0 (Tx0.mk 0 0) 0 0 0 false l_11 [])
def q43 (F:Nat) (x_1:Txa) (x_9:Int) (l_10:(List Int)):Option (Tx3):=
  (qh F x_9 x_1.Server.MTU).bind fun x_14=>
  (q27 F l_10 x_14).bind fun x_15=>
  q65 F x_9 x_15
def q66 (F:Nat) (x_1:Txa) (p_2:Tx3) (x_3:Int):Option (Tx3):=
  if (decide (x_3<0))=true then
    (q7 F p_2 p_2.Handle 1).bind fun x_4=>
    some x_4
  else
    (idx x_1.Server.DB x_3).bind fun x_5=>
    (q21 F x_1 x_5).bind fun x_6=>
    if (x_6 != 0)=true then
      (q7 F p_2 p_2.Handle x_6).bind fun x_7=>
      some x_7
    else
      (q26 F x_1 x_3).bind fun x_8=>
      (q3b F p_2.Kind).bind fun x_9=>
      if (p_2.Kind == 12)=true then
        if ((decide (p_2.Offset<0))||(decide (p_2.Offset > (len x_8))))=true then
          (q7 F p_2 p_2.Handle 7).bind fun x_16=>
          some x_16
        else
          (sub x_8 p_2.Offset (len x_8)).bind fun l_17=>
          q43 F x_1 x_9 l_17
      else
        q43 F x_1 x_9 x_8
def q3d (F:Nat) (x_1:Txa) (p_2:Tx3):Option (Tx3):=
  (qn F x_1.Server.DB p_2.Handle).bind fun x_20=>
  q66 F x_1 p_2 x_20
def q7j (_:Nat) (x_1:Txa) (p_2:Tx3):Option (Tx3×Txa):=
  some ((Tx3.mk 3 0 0 0 (Tx0.mk 0 0) 0 x_1.Server.Max 0 false [] []),{ x_1 with Server:={ x_1.Server with MTU:=imin p_2.MTU x_1.Server.Max } })
def q4w (F:Nat) (x_1:Txa) (p_2:Tx3):Option (Tx3×Txa):=
  q7j F x_1 p_2
def q3e (F:Nat) (a_1:Tx1):Option (Tx1):=
  (q5 F [a_1.Value]).bind fun x_2=>
  some ({ a_1 with Value:=x_2 })
def q7k (_:Nat) (l_4:(List Tx1)):Option ((List Tx1)):=
  some l_4
def q4x (_:Nat) (x_6:Int) (l_7:(List Tx1)):Option (Out ((List Tx1)×Int) ((List Tx1))):=
  some (.next (l_7,w64 (x_6+1)))
def q28 (F:Nat) (db_1:(List Tx1)) (first_2:Int) (last_3:Int) (l_5:(List Tx1)) (x_6:Int):Option (Out ((List Tx1)×Int) ((List Tx1))):=
  if (decide (x_6<(len db_1)))=true then
    (idx db_1 x_6).bind fun x_8=>
    if ((decide (x_8.Handle≥first_2))&&(decide (x_8.Handle≤last_3)))=true then
      (q3e F x_8).bind fun x_9=>
      (app 56 l_5 [x_9]).bind fun l_10=>
      q4x F x_6 l_10
    else
      q4x F x_6 l_5
  else
    some (.done (l_5))
def q3f (F:Nat) (db_1:(List Tx1)) (first_2:Int) (last_3:Int):Option ((List Tx1)):=
  (iter (fun s=>q28 F db_1 first_2 last_3 s.1 s.2) F ([],0)).bind fun o=>
  q7k F o
def q3g (F:Nat) (u_1:Tx0):Option ((List Int)):=
  (q12 F u_1).bind fun x_2=>
  if x_2.2=true then
    some [wu8 x_2.1,wu8 (shrp x_2.1 8)]
  else
    (q10 F u_1).bind fun x_3=>
    (q5 F [[x_3.1,x_3.2.1,x_3.2.2.1,x_3.2.2.2.1,x_3.2.2.2.2.1,x_3.2.2.2.2.2.1,x_3.2.2.2.2.2.2.1,x_3.2.2.2.2.2.2.2.1,x_3.2.2.2.2.2.2.2.2.1,x_3.2.2.2.2.2.2.2.2.2.1,x_3.2.2.2.2.2.2.2.2.2.2.1,x_3.2.2.2.2.2.2.2.2.2.2.2.1,x_3.2.2.2.2.2.2.2.2.2.2.2.2.1,x_3.2.2.2.2.2.2.2.2.2.2.2.2.2.1,x_3.2.2.2.2.2.2.2.2.2.2.2.2.2.2.1,x_3.2.2.2.2.2.2.2.2.2.2.2.2.2.2.2]]).bind fun x_4=>
    some x_4
def q67 (_:Nat) (l_1:Txc) (size_3:Int) (l_4:(List Tx2)):Option (Bool×Txc):=
  some (true,(Txc.mk l_4 (w64 (l_1.room - size_3))))
def qp (F:Nat) (l_1:Txc) (i_2:Tx2) (size_3:Int):Option (Bool×Txc):=
  if (decide (size_3 > l_1.room))=true then
    some (false,l_1)
  else
    (app 48 l_1.items [i_2]).bind fun l_567=>
    q67 F l_1 size_3 l_567
def q68 (F:Nat) (x_1:Txa) (p_2:Tx3) (c_6:Txc):Option (Tx3×Txa):=
  if ((len c_6.items) == 0)=true then
    (q7 F p_2 p_2.Handle 10).bind fun x_7=>
    some (x_7,x_1)
  else
    some ((Tx3.mk 5 0 0 0 (Tx0.mk 0 0) 0 0 0 false [] c_6.items),x_1)
def q69 (_:Nat) (x_14:Int) (x_17:Int) (c_21:Txc) (z_22:Bool):Option (Out (Txc×Int×Int) (Txc)):=
  if z_22=true then
    some (.done (c_21))
  else
    some (.next (c_21,x_17,w64 (x_14+1)))
def q3h (F:Nat) (c_12:Txc) (x_14:Int) (x_15:Tx1) (x_16:(List Int)) (x_17:Int):Option (Out (Txc×Int×Int) (Txc)):=
  (if ((len x_16) != x_17)=true then
    some (c_12,true)
  else
    (qp F c_12 (Tx2.mk x_15.Handle 0 x_15.fT []) (w64 (2+(len x_16)))).bind fun x_24=>
    some (x_24.2,(!x_24.1))).bind fun z_23=>
  q69 F x_14 x_17 z_23.1 z_23.2
def q2o (F:Nat) (l_8:(List Tx1)) (x_9:Int) (c_12:Txc) (x_13:Int) (x_14:Int):Option (Out (Txc×Int×Int) (Txc)):=
  if (decide (x_14<x_9))=true then
    (idx l_8 x_14).bind fun x_15=>
    (q3g F x_15.fT).bind fun x_16=>
    if (x_13 == 0)=true then
      q3h F c_12 x_14 x_15 x_16 (len x_16)
    else
      q3h F c_12 x_14 x_15 x_16 x_13
  else
    some (.done (c_12))
def q6a (F:Nat) (x_1:Txa) (p_2:Tx3) (x_3:Int) (l_8:(List Tx1)) (x_9:Int):Option (Tx3×Txa):=
  (iter (fun s=>q2o F l_8 x_9 s.1 s.2.1 s.2.2) F ((Txc.mk [] x_3),0,0)).bind fun o=>
  q68 F x_1 p_2 o
def q3i (F:Nat) (x_1:Txa) (p_2:Tx3):Option (Tx3×Txa):=
  (qh F 5 x_1.Server.MTU).bind fun x_3=>
  (q3f F x_1.Server.DB p_2.Handle p_2.Last).bind fun x_27=>
  q6a F x_1 p_2 x_3 x_27 (len x_27)
def q6b (F:Nat) (x_1:Txa) (p_2:Tx3) (c_6:Txc):Option (Tx3×Txa):=
  if ((len c_6.items) == 0)=true then
    (q7 F p_2 p_2.Handle 10).bind fun x_7=>
    some (x_7,x_1)
  else
    some ((Tx3.mk 9 0 0 0 (Tx0.mk 0 0) 0 0 0 false [] c_6.items),x_1)
def q4y (_:Nat) (x_11:Int) (c_14:Txc):Option (Out (Txc×Int) (Sum (Txc) (Tx3×Txa))):=
  some (.next (c_14,w64 (x_11+1)))
def q6c (F:Nat) (x_11:Int) (c_24:Txc) (z_25:Bool):Option (Out (Txc×Int) (Sum (Txc) (Tx3×Txa))):=
  if z_25=true then
    some (.done (.inl (c_24)))
  else
    q4y F x_11 c_24
def q6d (F:Nat) (c_10:Txc) (x_11:Int) (x_15:Tx1) (x_16:Int) (l_18:(List Int)):Option (Out (Txc×Int) (Sum (Txc) (Tx3×Txa))):=
  (if (x_16 != 0)=true then
    some (true)
  else
    if (decide ((len c_10.items) > 0))=true then
      (idx c_10.items 0).bind fun x_30=>
      some (((len l_18) != (len x_30.Value)))
    else
      some (false)).bind fun z_20=>
  (if z_20=true then
    some (c_10,true)
  else
    (qp F c_10 (Tx2.mk x_15.Handle 0 (Tx0.mk 0 0) l_18) (w64 (2+(len l_18)))).bind fun x_27=>
    some (x_27.2,(!x_27.1))).bind fun z_26=>
  q6c F x_11 z_26.1 z_26.2
def q2p (F:Nat) (x_1:Txa) (p_2:Tx3) (c_10:Txc) (x_11:Int):Option (Out (Txc×Int) (Sum (Txc) (Tx3×Txa))):=
  if (decide (x_11<(len x_1.Server.DB)))=true then
    (idx x_1.Server.DB x_11).bind fun x_15=>
    if (((!((x_15.fT.High == p_2.fT.High)&&(x_15.fT.Low == p_2.fT.Low)))||(decide (x_15.Handle<p_2.Handle)))||(decide (x_15.Handle > p_2.Last)))=true then
      q4y F x_11 c_10
    else
      (q21 F x_1 x_15).bind fun x_16=>
      if ((x_16 != 0)&&((len c_10.items) == 0))=true then
        (q7 F p_2 x_15.Handle x_16).bind fun x_17=>
        some (.done (.inr (x_17,x_1)))
      else
        (q26 F x_1 x_11).bind fun x_33=>
        (q27 F x_33 (imin (w64 (x_1.Server.MTU - 4)) 253)).bind fun x_34=>
        q6d F c_10 x_11 x_15 x_16 x_34
  else
    some (.done (.inl (c_10)))
def q3j (F:Nat) (x_1:Txa) (p_2:Tx3):Option (Tx3×Txa):=
  (qh F 9 x_1.Server.MTU).bind fun x_3=>
  (iter (fun s=>q2p F x_1 p_2 s.1 s.2) F ((Txc.mk [] x_3),0)).bind fun o=>
  match o with
  | .inl u=>q6b F x_1 p_2 u
  | .inr u=>some u
def q6e (_:Nat) (db_1:(List Tx1)) (x_6:Int):Option (Int×Bool):=
  (idx db_1 x_6).bind fun x_7=>
  some (x_7.Handle,true)
def q29 (F:Nat) (db_1:(List Tx1)) (x_8:Int):Option (Out (Int) (Int)):=
  (if (decide ((w64 (x_8+1))<(len db_1)))=true then
    (idx db_1 (w64 (x_8+1))).bind fun x_12=>
    (qj F x_12.fT).bind fun x_13=>
    some ((!x_13))
  else
    some (false)).bind fun z_10=>
  if z_10=true then
    some (.next (w64 (x_8+1)))
  else
    some (.done (x_8))
def q2q (F:Nat) (db_1:(List Tx1)) (handle_2:Int):Option (Int×Bool):=
  (qn F db_1 handle_2).bind fun x_3=>
  (if (decide (x_3<0))=true then
    some (true)
  else
    (idx db_1 x_3).bind fun x_15=>
    (qj F x_15.fT).bind fun x_16=>
    some ((!x_16))).bind fun z_5=>
  if z_5=true then
    some (0,false)
  else
    (iter (fun s=>q29 F db_1 s) F (x_3)).bind fun o=>
    q6e F db_1 o
def q6f (F:Nat) (x_1:Txa) (p_2:Tx3) (c_10:Txc):Option (Tx3×Txa):=
  if ((len c_10.items) == 0)=true then
    (q7 F p_2 p_2.Handle 10).bind fun x_11=>
    some (x_11,x_1)
  else
    some ((Tx3.mk 17 0 0 0 (Tx0.mk 0 0) 0 0 0 false [] c_10.items),x_1)
def q4z (_:Nat) (x_15:Int) (c_18:Txc):Option (Out (Txc×Int) (Txc)):=
  some (.next (c_18,w64 (x_15+1)))
def q2a (F:Nat) (x_15:Int) (c_23:Txc) (z_24:Bool):Option (Out (Txc×Int) (Txc)):=
  if z_24=true then
    some (.done (c_23))
  else
    q4z F x_15 c_23
def q6g (F:Nat) (c_14:Txc) (x_15:Int) (x_19:Tx1) (x_20:Int):Option (Out (Txc×Int) (Txc)):=
  if (decide ((len c_14.items) > 0))=true then
    (idx c_14.items 0).bind fun x_28=>
    if ((len x_19.Value) != (len x_28.Value))=true then
      q2a F x_15 c_14 true
    else
      (q5 F [x_19.Value]).bind fun x_30=>
      (qp F c_14 (Tx2.mk x_19.Handle x_20 (Tx0.mk 0 0) x_30) (w64 (4+(len x_19.Value)))).bind fun x_31=>
      q2a F x_15 x_31.2 (!x_31.1)
  else
    (q5 F [x_19.Value]).bind fun x_32=>
    (qp F c_14 (Tx2.mk x_19.Handle x_20 (Tx0.mk 0 0) x_32) (w64 (4+(len x_19.Value)))).bind fun x_33=>
    q2a F x_15 x_33.2 (!x_33.1)
def q2r (F:Nat) (x_1:Txa) (p_2:Tx3) (c_14:Txc) (x_15:Int):Option (Out (Txc×Int) (Txc)):=
  if (decide (x_15<(len x_1.Server.DB)))=true then
    (idx x_1.Server.DB x_15).bind fun x_19=>
    if (((!((x_19.fT.High == p_2.fT.High)&&(x_19.fT.Low == p_2.fT.Low)))||(decide (x_19.Handle<p_2.Handle)))||(decide (x_19.Handle > p_2.Last)))=true then
      q4z F x_15 c_14
    else
      (q2q F x_1.Server.DB x_19.Handle).bind fun x_36=>
      q6g F c_14 x_15 x_19 x_36.1
  else
    some (.done (c_14))
def q3k (F:Nat) (x_1:Txa) (p_2:Tx3):Option (Tx3×Txa):=
  (q8 F p_2.fT 10240).bind fun x_3=>
  (if (!x_3)=true then
    (q8 F p_2.fT 10241).bind fun x_38=>
    some ((!x_38))
  else
    some (false)).bind fun z_5=>
  if z_5=true then
    (q7 F p_2 p_2.Handle 16).bind fun x_6=>
    some (x_6,x_1)
  else
    (qh F 17 x_1.Server.MTU).bind fun x_7=>
    (iter (fun s=>q2r F x_1 p_2 s.1 s.2) F ((Txc.mk [] x_7),0)).bind fun o=>
    q6f F x_1 p_2 o
def q6h (_:Nat) (p_2:Tx3) (x_3:Int×Int×Txa) (l_9:(List Tx7)) (l_10:(List Int)):Option (Tx3×Txa):=
  some ({ p_2 with Kind:=23,Asked:=0,Last:=0,fT:=(Tx0.mk 0 0),MTU:=0,Code:=0,Commit:=false,Value:=l_10,List:=[] },{ x_3.2.2 with Server:={ x_3.2.2.Server with Queue:=l_9 } })
def q6i (F:Nat) (p_2:Tx3) (x_3:Int×Int×Txa) (l_9:(List Tx7)):Option (Tx3×Txa):=
  (q5 F [p_2.Value]).bind fun x_13=>
  q6h F p_2 x_3 l_9 x_13
def q3l (F:Nat) (x_1:Txa) (p_2:Tx3):Option (Tx3×Txa):=
  (q20 F x_1 p_2.Handle).bind fun x_3=>
  if (x_3.2.1 != 0)=true then
    (q7 F p_2 p_2.Handle x_3.2.1).bind fun x_4=>
    some (x_4,x_3.2.2)
  else
    (idx x_3.2.2.Server.DB x_3.1).bind fun x_5=>
    (q8 F x_5.fT 10498).bind fun x_6=>
    if x_6=true then
      (q7 F p_2 p_2.Handle 6).bind fun x_7=>
      some (x_7,x_3.2.2)
    else
      if (decide ((len x_3.2.2.Server.Queue)≥16))=true then
        (q7 F p_2 p_2.Handle 9).bind fun x_8=>
        some (x_8,x_3.2.2)
      else
        (q5 F [p_2.Value]).bind fun x_1056=>
        (app 40 x_3.2.2.Server.Queue [(Tx7.mk p_2.Handle p_2.Offset x_1056)]).bind fun l_1296=>
        q6i F p_2 x_3 l_1296
def q6j (_:Nat) (x_1:Txa) (l_4:(List Tx1)) (l_5:(List Int)):Option (Tx3×Txa):=
  some ((Tx3.mk 25 0 0 0 (Tx0.mk 0 0) 0 0 0 false [] []),(Txa.mk ({ x_1.Server with DB:=l_4,Queue:=[] }) l_5))
def q50 (_:Nat) (x_8:Int) (l_9:(List Tx1)) (l_10:(List Int)):Option (Out ((List Tx1)×(List Int)×Int) (Sum ((List Tx1)×(List Int)) (Tx3×Txa))):=
  some (.next (l_9,l_10,w64 (x_8+1)))
def q2s (F:Nat) (x_1:Txa) (p_2:Tx3) (l_6:(List Tx1)) (l_7:(List Int)) (x_8:Int):Option (Out ((List Tx1)×(List Int)×Int) (Sum ((List Tx1)×(List Int)) (Tx3×Txa))):=
  if (decide (x_8<(len x_1.Server.Queue)))=true then
    (idx x_1.Server.Queue x_8).bind fun x_11=>
    (qn F l_6 x_11.Handle).bind fun x_12=>
    if (decide (x_12<0))=true then
      (q7 F p_2 x_11.Handle 1).bind fun x_13=>
      some (.done (.inr (x_13,{ x_1 with Server:={ x_1.Server with Queue:=[] } })))
    else
      (idx l_6 x_12).bind fun x_14=>
      if ((decide (x_11.Offset<0))||(decide (x_11.Offset > (len x_14.Value))))=true then
        (q7 F p_2 x_11.Handle 7).bind fun x_15=>
        some (.done (.inr (x_15,{ x_1 with Server:={ x_1.Server with Queue:=[] } })))
      else
        if (decide ((w64 (x_11.Offset+(len x_11.Value))) > 512))=true then
          (q7 F p_2 x_11.Handle 13).bind fun x_16=>
          some (.done (.inr (x_16,{ x_1 with Server:={ x_1.Server with Queue:=[] } })))
        else
          (sub x_14.Value 0 x_11.Offset).bind fun l_19=>
          (q5 F [l_19,x_11.Value]).bind fun x_20=>
          (idx l_6 x_12).bind fun _=>
          (idx l_6 x_12).bind fun x_22=>
          (upd l_6 x_12 ({ x_22 with Value:=x_20 })).bind fun l_23=>
          (q1n F l_7 x_11.Handle).bind fun x_24=>
          if (!x_24)=true then
            (app 2 l_7 [x_11.Handle]).bind fun l_25=>
            q50 F x_8 l_23 l_25
          else
            q50 F x_8 l_23 l_7
  else
    some (.done (.inl (l_6,l_7)))
def q3m (F:Nat) (x_1:Txa) (p_2:Tx3):Option (Tx3×Txa):=
  if (!p_2.Commit)=true then
    some ((Tx3.mk 25 0 0 0 (Tx0.mk 0 0) 0 0 0 false [] []),{ x_1 with Server:={ x_1.Server with Queue:=[] } })
  else
    (q6 F x_1.Server.DB).bind fun x_3=>
    (iter (fun s=>q2s F x_1 p_2 s.1 s.2.1 s.2.2) F (x_3,[],0)).bind fun o=>
    match o with
    | .inl u=>q6j F x_1 u.1 u.2
    | .inr u=>some u
def q7l (_:Nat) (x_11:Tx3×Txa):Option (Tx8×(List Tx3)×(List Int)):=
  some (x_11.2.Server,[],x_11.2.wn)
def q7m (_:Nat) (x_4:Txa) (x_14:Int) (x_16:Tx3):Option (Tx8×(List Tx3)×(List Int)):=
  some ({ x_4.Server with Aware:=x_14 },[x_16],x_4.wn)
def q7n (_:Nat) (x_1139:Tx3×Txa):Option (Tx8×(List Tx3)×(List Int)):=
  some (x_1139.2.Server,[x_1139.1],x_1139.2.wn)
def q7o (_:Nat) (x_2262:Tx3×Txa):Option (Tx8×(List Tx3)×(List Int)):=
  some (x_2262.2.Server,[x_2262.1],x_2262.2.wn)
def q7p (_:Nat) (x_3385:Tx3×Txa):Option (Tx8×(List Tx3)×(List Int)):=
  some (x_3385.2.Server,[x_3385.1],x_3385.2.wn)
def q7q (_:Nat) (x_4508:Tx3×Txa):Option (Tx8×(List Tx3)×(List Int)):=
  some (x_4508.2.Server,[x_4508.1],x_4508.2.wn)
def q7r (_:Nat) (x_5631:Tx3×Txa):Option (Tx8×(List Tx3)×(List Int)):=
  some (x_5631.2.Server,[x_5631.1],x_5631.2.wn)
def q7s (_:Nat) (x_6754:Tx3×Txa):Option (Tx8×(List Tx3)×(List Int)):=
  some (x_6754.2.Server,[x_6754.1],x_6754.2.wn)
def q7t (_:Nat) (x_7877:Tx3×Txa):Option (Tx8×(List Tx3)×(List Int)):=
  some (x_7877.2.Server,[x_7877.1],x_7877.2.wn)
def q44 (F:Nat) (p_2:Tx3) (x_4:Txa) (x_14:Int):Option (Tx8×(List Tx3)×(List Int)):=
  if ((p_2.Kind == 10)||(p_2.Kind == 12))=true then
    (q3d F ({ x_4 with Server:={ x_4.Server with Aware:=x_14 } }) p_2).bind fun x_16=>
    q7m F x_4 x_14 x_16
  else
    if (p_2.Kind == 2)=true then
      (q4w F ({ x_4 with Server:={ x_4.Server with Aware:=x_14 } }) p_2).bind fun x_1139=>
      q7n F x_1139
    else
      if (p_2.Kind == 4)=true then
        (q3i F ({ x_4 with Server:={ x_4.Server with Aware:=x_14 } }) p_2).bind fun x_2262=>
        q7o F x_2262
      else
        if (p_2.Kind == 8)=true then
          (q3j F ({ x_4 with Server:={ x_4.Server with Aware:=x_14 } }) p_2).bind fun x_3385=>
          q7p F x_3385
        else
          if (p_2.Kind == 16)=true then
            (q3k F ({ x_4 with Server:={ x_4.Server with Aware:=x_14 } }) p_2).bind fun x_4508=>
            q7q F x_4508
          else
            if (p_2.Kind == 18)=true then
              (q16 F ({ x_4 with Server:={ x_4.Server with Aware:=x_14 } }) p_2).bind fun x_5631=>
              q7r F x_5631
            else
              if (p_2.Kind == 22)=true then
                (q3l F ({ x_4 with Server:={ x_4.Server with Aware:=x_14 } }) p_2).bind fun x_6754=>
                q7s F x_6754
              else
                if (p_2.Kind == 24)=true then
                  (q3m F ({ x_4 with Server:={ x_4.Server with Aware:=x_14 } }) p_2).bind fun x_7877=>
                  q7t F x_7877
                else
                  none
def q7u (_:Nat) (x_4:Txa) (x_9000:Int) (l_9002:(List Tx3)):Option (Tx8×(List Tx3)×(List Int)):=
  some ({ x_4.Server with Aware:=x_9000 },l_9002,[])
def q6k (F:Nat) (p_2:Tx3) (x_4:Txa) (x_9000:Int) (z_9001:Bool):Option (Tx8×(List Tx3)×(List Int)):=
  if z_9001=true then
    (q7 F p_2 p_2.Handle 18).bind fun x_9005=>
    q7u F x_4 x_9000 [x_9005]
  else
    q44 F p_2 x_4 x_9000
def q7v (_:Nat) (x_10055:Tx3×Txa):Option (Tx8×(List Tx3)×(List Int)):=
  some (x_10055.2.Server,[],x_10055.2.wn)
def ql (F:Nat) (s_1:Tx8) (p_2:Tx3) (_:Int):Option (Tx8×(List Tx3)×(List Int)):=
  (q1x F s_1).bind fun x_4=>
  if (((p_2.Kind == 10)||(p_2.Kind == 12))||((p_2.Kind == 2)||((p_2.Kind == 4)||((p_2.Kind == 8)||((p_2.Kind == 16)||((p_2.Kind == 18)||((p_2.Kind == 22)||(p_2.Kind == 24))))))))=true then
    (q2k F x_4).bind fun _=>
    if (p_2.Kind == 30)=true then
      some ({ x_4.Server with Wait:=false },[],[])
    else
      if ((p_2.Kind == 82)&&((!x_4.Server.Robust)||(x_4.Server.Aware == 2)))=true then
        (q16 F x_4 p_2).bind fun x_11=>
        q7l F x_11
      else
        if x_4.Server.Robust=true then
          if (p_2.Kind == 8)=true then
            (q8 F p_2.fT 11050).bind fun x_10049=>
            (q38 F x_4.Server.Aware x_10049).bind fun x_10050=>
            q6k F p_2 x_4 x_10050.1 x_10050.2
          else
            (q38 F x_4.Server.Aware false).bind fun x_10051=>
            q6k F p_2 x_4 x_10051.1 x_10051.2
        else
          q44 F p_2 x_4 x_4.Server.Aware
  else
    (q2k F x_4).bind fun _=>
    if (p_2.Kind == 30)=true then
      some ({ x_4.Server with Wait:=false },[],[])
    else
      if ((p_2.Kind == 82)&&((!x_4.Server.Robust)||(x_4.Server.Aware == 2)))=true then
        (q16 F x_4 p_2).bind fun x_10055=>
        q7v F x_10055
      else
        some (x_4.Server,[],[])
def q7w (_:Nat) (x_3:Txa) (x_6:(List Tx1)) (l_7:(List Tx6)) (l_8:(List Tx3)):Option (Tx8×Int):=
  some ({ x_3.Server with DB:=x_6,Queue:=[],Aware:=0,Subs:=l_7,Out:=l_8 },0)
def q7x (F:Nat) (x_6:(List Tx1)) (x_9:Int) (x_10:Tx6) (x_11:Int):Option (Out (Int) ((List Tx3))):=
  (if (((iand .i64 x_10.Bits 2) != 0)&&(decide (x_11≥0)))=true then
    (idx x_6 x_11).bind fun x_15=>
    (q8 F x_15.fT 10757).bind fun x_16=>
    some (x_16)
  else
    some (false)).bind fun z_13=>
  if z_13=true then
    some (.done ([(Tx3.mk 29 0 x_10.Handle 0 (Tx0.mk 0 0) 0 0 0 false [1,0,255,255] [])]))
  else
    some (.next (w64 (x_9+1)))
def q6l (F:Nat) (x_6:(List Tx1)) (l_7:(List Tx6)) (x_9:Int):Option (Out (Int) ((List Tx3))):=
  if (decide (x_9<(len l_7)))=true then
    (idx l_7 x_9).bind fun x_10=>
    (qn F x_6 x_10.Handle).bind fun x_19=>
    q7x F x_6 x_9 x_10 x_19
  else
    some (.done ([]))
def q7y (F:Nat) (x_3:Txa) (x_6:(List Tx1)) (l_7:(List Tx6)):Option (Tx8×Int):=
  (iter (fun s=>q6l F x_6 l_7 s) F (0)).bind fun o=>
  q7w F x_3 x_6 l_7 o
def q6m (_:Nat) (x_21:Int) (l_22:(List Tx6)):Option (Out ((List Tx6)×Int) ((List Tx6))):=
  some (.next (l_22,w64 (x_21+1)))
def q6n (F:Nat) (db_2:(List Tx1)) (x_3:Txa) (l_20:(List Tx6)) (x_21:Int):Option (Out ((List Tx6)×Int) ((List Tx6))):=
  if (decide (x_21<(len x_3.Server.Subs)))=true then
    (idx x_3.Server.Subs x_21).bind fun x_23=>
    (q14 F db_2 x_23.Handle).bind fun x_24=>
    if ((iand .i64 x_23.Bits x_24.1) != 0)=true then
      (app 16 l_20 [{ x_23 with Bits:=iand .i64 x_23.Bits x_24.1 }]).bind fun l_25=>
      q6m F x_21 l_25
    else
      q6m F x_21 l_20
  else
    some (.done (l_20))
def q7z (F:Nat) (db_2:(List Tx1)) (x_3:Txa) (z_5:Bool):Option (Tx8×Int):=
  (q6 F db_2).bind fun x_6=>
  if z_5=true then
    some ({ x_3.Server with DB:=x_6 },0)
  else
    (iter (fun s=>q6n F db_2 x_3 s.1 s.2) F ([],0)).bind fun o=>
    q7y F x_3 x_6 o
def q51 (F:Nat) (s_1:Tx8) (db_2:(List Tx1)):Option (Tx8×Int):=
  (q1x F s_1).bind fun x_3=>
  (q1r F db_2).bind fun x_4=>
  if (x_4 != 0)=true then
    some (x_3.Server,x_4)
  else
    (q18 F db_2).bind fun x_28=>
    (q18 F x_3.Server.DB).bind fun x_29=>
    q7z F db_2 x_3 (x_28 == x_29)
def q52 (_:Nat) (a_1:(List Int)) (b_2:(List Int)):Option (Bool):=
  some ((str a_1) == (str b_2))
def q80 (F:Nat) (x_2:Tx8×Int) (x_3:Tx8×(List Tx3)×(List Int)) (x_4:Tx8×(List Tx3)×(List Int)) (c_16:Tx8) (x_17:Int):Option (Bool):=
  (ql F c_16 (Tx3.mk 10 0 3 0 (Tx0.mk 0 0) 0 0 0 false [] []) 0).bind fun x_18=>
  (ql F x_18.1 (Tx3.mk 10 0 3 0 (Tx0.mk 0 0) 0 0 0 false [] []) 0).bind fun x_19=>
  if ((((((x_2.2 != 0)||(x_17 != 0))||((len x_3.2.1) != 1))||((len x_4.2.1) != 1))||((len x_18.2.1) != 1))||((len x_19.2.1) != 1))=true then
    some false
  else
    (idx x_3.2.1 0).bind fun x_20=>
    (if (x_20.Kind == 11)=true then
      (idx x_3.2.1 0).bind fun x_40=>
      (q52 F x_40.Value [50]).bind fun x_41=>
      some (x_41)
    else
      some (false)).bind fun z_22=>
    (if z_22=true then
      (idx x_4.2.1 0).bind fun x_38=>
      some ((x_38.Kind == 1))
    else
      some (false)).bind fun z_24=>
    (if z_24=true then
      (idx x_4.2.1 0).bind fun x_36=>
      some ((x_36.Code == 1))
    else
      some (false)).bind fun z_26=>
    (if z_26=true then
      (idx x_18.2.1 0).bind fun x_34=>
      some ((x_34.Code == 18))
    else
      some (false)).bind fun z_28=>
    (if z_28=true then
      (idx x_19.2.1 0).bind fun x_32=>
      some ((x_32.Kind == 11))
    else
      some (false)).bind fun z_30=>
    some z_30
def q1h (F:Nat):Option (Bool):=
  (q2e F 10777).bind fun x_1=>
  (q1u F x_1 100 0 true 2 []).bind fun x_2=>
  (ql F x_2.1 (Tx3.mk 10 0 3 0 (Tx0.mk 0 0) 0 0 0 false [] []) 0).bind fun x_3=>
  (ql F x_3.1 (Tx3.mk 10 0 9 0 (Tx0.mk 0 0) 0 0 0 false [] []) 0).bind fun x_4=>
  (q2e F 10778).bind fun x_124=>
  (q51 F x_4.1 x_124).bind fun x_204=>
  q80 F x_2 x_3 x_4 x_204.1 x_204.2
def q3n (_:Nat) (z_8:Bool):Option (Txd):=
  if z_8=true then
    some (Txd.mk true false false false false false false false false false true)
  else
    some (Txd.mk false false false false false false false false false false false)
def q3o (F:Nat) (kind_1:Int) (z_7:Bool):Option (Txd):=
  if z_7=true then
    some (Txd.mk true false false false false false false false false false false)
  else
    if (kind_1 == 5)=true then
      q3n F (kind_1 == 5)
    else
      if (kind_1 == 9)=true then
        q3n F (kind_1 == 9)
      else
        q3n F (kind_1 == 17)
def q45 (F:Nat) (kind_1:Int) (z_6:Bool):Option (Txd):=
  if z_6=true then
    some (Txd.mk true false true false false true false false false true false)
  else
    if (kind_1 == 24)=true then
      some (Txd.mk true false false false false false false false true false false)
    else
      if (kind_1 == 19)=true then
        q3o F kind_1 (kind_1 == 19)
      else
        if (kind_1 == 25)=true then
          q3o F kind_1 (kind_1 == 25)
        else
          q3o F kind_1 (kind_1 == 30)
def q2t (F:Nat) (kind_1:Int) (z_5:Bool):Option (Txd):=
  if z_5=true then
    some (Txd.mk true false true false false false false false false true false)
  else
    if (kind_1 == 22)=true then
      q45 F kind_1 (kind_1 == 22)
    else
      q45 F kind_1 (kind_1 == 23)
def q46 (F:Nat) (kind_1:Int) (z_4:Bool):Option (Txd):=
  if z_4=true then
    some (Txd.mk true false false false false false false false false true false)
  else
    if (kind_1 == 18)=true then
      q2t F kind_1 (kind_1 == 18)
    else
      if (kind_1 == 82)=true then
        q2t F kind_1 (kind_1 == 82)
      else
        if (kind_1 == 27)=true then
          q2t F kind_1 (kind_1 == 27)
        else
          q2t F kind_1 (kind_1 == 29)
def q47 (F:Nat) (kind_1:Int) (z_3:Bool):Option (Txd):=
  if z_3=true then
    some (Txd.mk true false true true true false false false false false false)
  else
    if (kind_1 == 10)=true then
      some (Txd.mk true false true false false false false false false false false)
    else
      if (kind_1 == 12)=true then
        some (Txd.mk true false true false false true false false false false false)
      else
        if (kind_1 == 11)=true then
          q46 F kind_1 (kind_1 == 11)
        else
          q46 F kind_1 (kind_1 == 13)
def q48 (F:Nat) (kind_1:Int) (z_2:Bool):Option (Txd):=
  if z_2=true then
    some (Txd.mk true false false false false false true false false false false)
  else
    if (kind_1 == 4)=true then
      some (Txd.mk true false true true false false false false false false false)
    else
      if (kind_1 == 8)=true then
        q47 F kind_1 (kind_1 == 8)
      else
        q47 F kind_1 (kind_1 == 16)
def qb (F:Nat) (kind_1:Int):Option (Txd):=
  if (kind_1 == 1)=true then
    some (Txd.mk true true true false false false false true false false false)
  else
    if (kind_1 == 2)=true then
      q48 F kind_1 (kind_1 == 2)
    else
      q48 F kind_1 (kind_1 == 3)
def qy (F:Nat) (p_1:Tx3):Option (Bool):=
  (qb F p_1.Kind).bind fun x_2=>
  (if ((((!x_2.Asked)&&(p_1.Asked != 0))||((!x_2.Handle)&&(p_1.Handle != 0)))||((!x_2.Last)&&(p_1.Last != 0)))=true then
    some (true)
  else
    if (!x_2.fT)=true then
      some ((!((p_1.fT.High == 0)&&(p_1.fT.Low == 0))))
    else
      some (false)).bind fun z_4=>
  if (z_4||((!x_2.Offset)&&(p_1.Offset != 0)))=true then
    some false
  else
    if ((((!x_2.MTU)&&(p_1.MTU != 0))||((!x_2.Code)&&(p_1.Code != 0)))||((!x_2.Commit)&&p_1.Commit))=true then
      some false
    else
      some ((x_2.Value||((len p_1.Value) == 0))&&(x_2.List||((len p_1.List) == 0)))
def q49 (_:Nat) (x_2:Tx2) (l_6:(List Int)):Option ((List Int)):=
  (app 1 l_6 x_2.Value).bind fun l_7=>
  some l_7
def qi (F:Nat) (kind_1:Int) (x_2:Tx2):Option ((List Int)):=
  (q9 F (wu64 x_2.Handle) 2).bind fun x_3=>
  if (kind_1 == 5)=true then
    (qu F x_2.fT).bind fun x_4=>
    (app 1 x_3 x_4).bind fun l_5=>
    some l_5
  else
    if (kind_1 == 17)=true then
      (q9 F (wu64 x_2.Last) 2).bind fun x_8=>
      (app 1 x_3 x_8).bind fun l_9=>
      q49 F x_2 l_9
    else
      q49 F x_2 x_3
def q4a (_:Nat) (z_8:Bool):Option (Int):=
  if z_8=true then
    some 11
  else
    some 0
def q1i (F:Nat) (kind_1:Int) (l_2:(List Tx2)) (x_4:Tx2) (z_7:Bool):Option (Int):=
  if z_7=true then
    some 13
  else
    (idx l_2 0).bind fun x_9=>
    (qi F kind_1 x_4).bind fun x_12=>
    (qi F kind_1 x_9).bind fun x_653=>
    q4a F ((len x_12) != (len x_653))
def q1j (F:Nat) (kind_1:Int) (l_2:(List Tx2)) (i_3:Int):Option (Int):=
  (idx l_2 i_3).bind fun x_4=>
  (if (!(kind_1 == 5))=true then
    some ((!((x_4.fT.High == 0)&&(x_4.fT.Low == 0))))
  else
    some (false)).bind fun z_6=>
  if ((z_6||((kind_1 == 5)&&(decide ((len x_4.Value) > 0))))||((!(kind_1 == 17))&&(x_4.Last != 0)))=true then
    some 1
  else
    if (x_4.Handle == 0)=true then
      some 5
    else
      if (decide (i_3 > 0))=true then
        (idx l_2 (w64 (i_3 - 1))).bind fun x_1616=>
        (idx l_2 (w64 (i_3 - 1))).bind fun x_2096=>
        q1i F kind_1 l_2 x_4 ((decide (x_4.Handle≤(imax x_1616.Handle x_2096.Last)))||((kind_1 == 17)&&(decide (x_4.Last<x_4.Handle))))
      else
        q1i F kind_1 l_2 x_4 (false||((kind_1 == 17)&&(decide (x_4.Last<x_4.Handle))))
def q4b (_:Nat) (p_1:Tx3) (x_2:Int):Option (Int):=
  if ((decide (x_2 > 255))||(decide ((w64 (2+(w64 (x_2 * (len p_1.List))))) > 517)))=true then
    some 4
  else
    some 0
def q3p (F:Nat) (p_1:Tx3):Option (Int):=
  (idx p_1.List 0).bind fun x_3=>
  (qi F p_1.Kind x_3).bind fun x_6=>
  q4b F p_1 (len x_6)
def qc (F:Nat) (p_1:Tx3) (x_7:Int):Option (Out (Int) (Sum (Unit) (Int))):=
  if (decide (x_7<(len p_1.List)))=true then
    (q1j F p_1.Kind p_1.List x_7).bind fun x_8=>
    if (x_8 != 0)=true then
      some (.done (.inr x_8))
    else
      some (.next (w64 (x_7+1)))
  else
    some (.done (.inl ()))
def q11 (F:Nat) (p_1:Tx3):Option (Int):=
  if ((len p_1.List) == 0)=true then
    some 1
  else
    (iter (fun s=>qc F p_1 s) F (0)).bind fun o=>
    match o with
    | .inl _=>q3p F p_1
    | .inr u=>some u
def qa (F:Nat) (p_1:Tx3):Option (Int):=
  (qb F p_1.Kind).bind fun x_2=>
  if (!x_2.Known)=true then
    some 12
  else
    (qy F p_1).bind fun x_3=>
    if (!x_3)=true then
      some 1
    else
      if (x_2.Asked&&((decide (p_1.Asked<0))||(decide (p_1.Asked > 255))))=true then
        some 5
      else
        if ((x_2.Handle&&(p_1.Handle == 0))&&(p_1.Kind != 1))=true then
          some 5
        else
          if (x_2.Last&&(decide (p_1.Last<p_1.Handle)))=true then
            some 13
          else
            if (x_2.Offset&&((decide (p_1.Offset<0))||(decide (p_1.Offset > 65535))))=true then
              some 5
            else
              if (x_2.MTU&&((decide (p_1.MTU<23))||(decide (p_1.MTU > 517))))=true then
                some 5
              else
                if (x_2.Code&&((decide (p_1.Code<1))||(decide (p_1.Code > 255))))=true then
                  some 5
                else
                  if (decide ((len p_1.Value) > 512))=true then
                    some 4
                  else
                    if x_2.List=true then
                      (q11 F p_1).bind fun x_4=>
                      some x_4
                    else
                      some 0
def q3q (F:Nat) (u_1:Tx0):Option (Bool):=
  (q19 F u_1).bind fun x_2=>
  some x_2.2
def q3r (_:Nat) (p_1:Tx3) (l_11:(List Int)):Option ((List Int)×Int):=
  (app 1 l_11 p_1.Value).bind fun l_12=>
  some (l_12,0)
def q4c (F:Nat) (p_1:Tx3) (x_3:Txd) (l_10:(List Int)):Option ((List Int)×Int):=
  if (x_3.Commit&&p_1.Commit)=true then
    (app 1 l_10 [1]).bind fun l_13=>
    q3r F p_1 l_13
  else
    if x_3.Commit=true then
      (app 1 l_10 [0]).bind fun l_14=>
      q3r F p_1 l_14
    else
      q3r F p_1 l_10
def q4d (F:Nat) (p_1:Tx3) (x_3:Txd) (l_9:(List Int)):Option ((List Int)×Int):=
  if x_3.Code=true then
    (app 1 l_9 [wu8 p_1.Code]).bind fun l_15=>
    q4c F p_1 x_3 l_15
  else
    q4c F p_1 x_3 l_9
def q4e (F:Nat) (p_1:Tx3) (x_3:Txd) (l_8:(List Int)):Option ((List Int)×Int):=
  if x_3.MTU=true then
    (q9 F (wu64 p_1.MTU) 2).bind fun x_16=>
    (app 1 l_8 x_16).bind fun l_17=>
    q4d F p_1 x_3 l_17
  else
    q4d F p_1 x_3 l_8
def q4f (F:Nat) (p_1:Tx3) (x_3:Txd) (l_7:(List Int)):Option ((List Int)×Int):=
  if x_3.Offset=true then
    (q9 F (wu64 p_1.Offset) 2).bind fun x_18=>
    (app 1 l_7 x_18).bind fun l_19=>
    q4e F p_1 x_3 l_19
  else
    q4e F p_1 x_3 l_7
def q4g (F:Nat) (p_1:Tx3) (x_3:Txd) (l_6:(List Int)):Option ((List Int)×Int):=
  if x_3.fT=true then
    (qu F p_1.fT).bind fun x_20=>
    (app 1 l_6 x_20).bind fun l_21=>
    q4f F p_1 x_3 l_21
  else
    q4f F p_1 x_3 l_6
def q4h (F:Nat) (p_1:Tx3) (x_3:Txd) (l_5:(List Int)):Option ((List Int)×Int):=
  if x_3.Last=true then
    (q9 F (wu64 p_1.Last) 2).bind fun x_22=>
    (app 1 l_5 x_22).bind fun l_23=>
    q4g F p_1 x_3 l_23
  else
    q4g F p_1 x_3 l_5
def q4i (F:Nat) (p_1:Tx3) (x_3:Txd) (l_4:(List Int)):Option ((List Int)×Int):=
  if x_3.Handle=true then
    (q9 F (wu64 p_1.Handle) 2).bind fun x_24=>
    (app 1 l_4 x_24).bind fun l_25=>
    q4h F p_1 x_3 l_25
  else
    q4h F p_1 x_3 l_4
def q53 (F:Nat) (p_1:Tx3) (x_3:Txd):Option ((List Int)×Int):=
  if x_3.Asked=true then
    (app 1 [wu8 p_1.Kind] [wu8 p_1.Asked]).bind fun l_26=>
    q4i F p_1 x_3 l_26
  else
    q4i F p_1 x_3 [wu8 p_1.Kind]
def q6o (_:Nat) (l_30:(List Int)):Option ((List Int)×Int):=
  some (l_30,0)
def q2u (F:Nat) (p_1:Tx3) (l_31:(List Int)) (x_32:Int):Option (Out ((List Int)×Int) ((List Int))):=
  if (decide (x_32<(len p_1.List)))=true then
    (idx p_1.List x_32).bind fun x_33=>
    (qi F p_1.Kind x_33).bind fun x_36=>
    (app 1 l_31 x_36).bind fun l_37=>
    some (.next (l_37,w64 (x_32+1)))
  else
    some (.done (l_31))
def q3s (F:Nat) (p_1:Tx3) (x_28:Int):Option ((List Int)×Int):=
  (app 1 [wu8 p_1.Kind] [wu8 x_28]).bind fun l_29=>
  (iter (fun s=>q2u F p_1 s.1 s.2) F (l_29,0)).bind fun o=>
  q6o F o
def q6p (F:Nat) (p_1:Tx3) (x_27:Int):Option ((List Int)×Int):=
  if (p_1.Kind == 5)=true then
    (idx p_1.List 0).bind fun x_38=>
    (q3q F x_38.fT).bind fun x_39=>
    if x_39=true then
      q3s F p_1 1
    else
      q3s F p_1 2
  else
    q3s F p_1 x_27
def qq (F:Nat) (p_1:Tx3):Option ((List Int)×Int):=
  (qa F p_1).bind fun x_2=>
  if (x_2 != 0)=true then
    some ([],x_2)
  else
    (qb F p_1.Kind).bind fun x_3=>
    if x_3.List=true then
      (idx p_1.List 0).bind fun x_40=>
      (qi F p_1.Kind x_40).bind fun x_43=>
      q6p F p_1 (len x_43)
    else
      q53 F p_1 x_3
def qz (_:Nat) (kind_1:Int) (z_2:Bool):Option (Int):=
  if z_2=true then
    some (w64 (kind_1+1))
  else
    some (-1)
def q1k (F:Nat) (kind_1:Int):Option (Int):=
  if (kind_1 == 2)=true then
    qz F kind_1 (kind_1 == 2)
  else
    if (kind_1 == 4)=true then
      qz F kind_1 (kind_1 == 4)
    else
      if (kind_1 == 8)=true then
        qz F kind_1 (kind_1 == 8)
      else
        if (kind_1 == 10)=true then
          qz F kind_1 (kind_1 == 10)
        else
          if (kind_1 == 12)=true then
            qz F kind_1 (kind_1 == 12)
          else
            if (kind_1 == 16)=true then
              qz F kind_1 (kind_1 == 16)
            else
              if (kind_1 == 18)=true then
                qz F kind_1 (kind_1 == 18)
              else
                if (kind_1 == 22)=true then
                  qz F kind_1 (kind_1 == 22)
                else
                  if (kind_1 == 24)=true then
                    qz F kind_1 (kind_1 == 24)
                  else
                    qz F kind_1 (kind_1 == 29)
def q54 (F:Nat):Option (Bool):=
  (q1h F).bind fun x_9=>
  some x_9
def q55 (_:Nat) (x_22:Int) (c_34:Tx8):Option (Out (Tx8×Int) (Sum (Unit) (Bool))):=
  some (.next (c_34,w64 (x_22+1)))
def q56 (F:Nat) (x_22:Int) (c_48:Tx8):Option (Out (Tx8×Int) (Sum (Unit) (Bool))):=
  q55 F x_22 c_48
def q4j (F:Nat) (x_22:Int) (c_48:Tx8) (z_55:Bool):Option (Out (Tx8×Int) (Sum (Unit) (Bool))):=
  if z_55=true then
    some (.done (.inr false))
  else
    q56 F x_22 c_48
def q6q (F:Nat) (l_4:(List Tx3)) (x_22:Int) (c_48:Tx8) (l_49:(List Tx3)):Option (Out (Tx8×Int) (Sum (Unit) (Bool))):=
  (idx l_4 x_22).bind fun x_50=>
  (if (x_50.Kind != 29)=true then
    (idx l_4 x_22).bind fun x_63=>
    (q1k F x_63.Kind).bind fun x_64=>
    some (decide (x_64≥0))
  else
    some (false)).bind fun z_52=>
  if ((z_52 != ((len l_49) == 1))||(decide ((len l_49) > 1)))=true then
    some (.done (.inr false))
  else
    if z_52=true then
      (idx l_49 0).bind fun x_53=>
      (qq F x_53).bind fun x_54=>
      if ((x_54.2 != 0)||(decide ((len x_54.1) > c_48.MTU)))=true then
        q4j F x_22 c_48 true
      else
        if (x_53.Kind != 1)=true then
          (idx l_4 x_22).bind fun x_60=>
          (q1k F x_60.Kind).bind fun x_61=>
          q4j F x_22 c_48 (x_53.Kind != x_61)
        else
          q4j F x_22 c_48 false
    else
      q56 F x_22 c_48
def q2v (F:Nat) (l_4:(List Tx3)) (c_21:Tx8) (x_22:Int):Option (Out (Tx8×Int) (Sum (Unit) (Bool))):=
  if (decide (x_22<(len l_4)))=true then
    (idx l_4 x_22).bind fun x_35=>
    (qq F x_35).bind fun x_36=>
    if ((x_36.2 != 0)||(decide ((len x_36.1) > c_21.MTU)))=true then
      q55 F x_22 c_21
    else
      (idx l_4 x_22).bind fun x_65=>
      (ql F c_21 x_65 0).bind fun x_468=>
      q6q F l_4 x_22 x_468.1 x_468.2.1
  else
    some (.done (.inl ()))
def q2w (F:Nat) (db_1:(List Tx1)) (most_2:Int) (level_3:Int) (l_4:(List Tx3)):Option (Bool):=
  (q2x F db_1).bind fun x_5=>
  if ((!x_5)||(decide ((len l_4) > 30)))=true then
    (q1h F).bind fun x_6=>
    some x_6
  else
    (q1u F db_1 most_2 level_3 false 2 []).bind fun x_7=>
    if (x_7.2 != 0)=true then
      (q1h F).bind fun x_8=>
      some x_8
    else
      (iter (fun s=>q2v F l_4 s.1 s.2) F (x_7.1,0)).bind fun o=>
      match o with
      | .inl _=>q54 F
      | .inr u=>some u
end V
end Go.Proofs.YtoahakdkgefgiaaGreat
