/- Pure twins of the Go functions, wn by program. -/
import Derived.Test.YtbgfhaahhdnogaaGreatPure
namespace Go.Proofs.YtbgfhaahhdnogaaGreat
namespace V
structure Tx0 where
  PSM:Int
  MTU:Int
  MPS:Int
  Credits:Int
  Level:Int
structure Tx1 where
  Local:Int
  Remote:Int
  PSM:Int
  MTU:Int
  MPS:Int
  PeerMTU:Int
  PeerMPS:Int
  TxCredits:Int
  RxCredits:Int
  Given:Int
  Out:(List (List Int))
  Sent:Int
  In:(List Int)
  Want:Int
  Failed:Bool
structure Tx2 where
  WinSize:Int
  WinOffset:Int
  Interval:Int
  Latency:Int
  Timeout:Int
structure Tx3 where
  Kind:Int
  ID:Int
  PSM:Int
  Source:Int
  Dest:Int
  MTU:Int
  MPS:Int
  Credits:Int
  Result:Int
  Update:Tx2
structure Tx4 where
  On:Bool
  Buffer:(List Int)
structure Tx5 where
  CID:Int
  Payload:(List Int)
structure Tx6 where
  Role:Int
  Level:Int
  Listeners:(List Tx0)
  Channels:(List Tx1)
  Asked:(List Tx3)
  NextID:Int
  Assembler:Tx4
  Out:(List Tx5)
  Sent:Int
  Length:Int
structure Tx7 where
  Kind:Int
  CID:Int
  Data:(List Int)
  Result:Int
  Update:Tx2
  ID:Int
structure Tx8 where
  Mux:Tx6
  events:(List Tx7)
structure Tx9 where
  n:Int
  low:Int
  high:Int
structure Txa where
  Size:Int
  Value:Int
structure Txb where
  LLID:Int
  Payload:(List Int)
def q1z (_:Nat) (o_1:Tx0) (p_2:Tx0):Option (Bool×Tx0):=
  some ((o_1.PSM == p_2.PSM),p_2)
def q50 (_:Nat) (c_8:Tx0):Option (Int×Tx0):=
  some ((-1),c_8)
def qg (F:Nat) (s_1:(List Tx0)) (c_14:Tx0) (x_15:Int):Option (Out (Tx0×Int) (Sum (Tx0) (Int×Tx0))):=
  if (decide (x_15<(len s_1)))=true then
    (idx s_1 x_15).bind fun x_16=>
    (q1z F x_16 c_14).bind fun x_17=>
    if x_17.1=true then
      some (.done (.inr (x_15,x_17.2)))
    else
      some (.next (x_17.2,w64 (x_15+1)))
  else
    some (.done (.inl (c_14)))
def q16 (F:Nat) (s_1:(List Tx0)) (c_2:Tx0):Option (Int×Tx0):=
  (iter (fun s=>qg F s_1 s.1 s.2) F (c_2,0)).bind fun o=>
  match o with
  | .inl u=>q50 F u
  | .inr u=>some u
def q17 (F:Nat) (s_1:(List Tx0)) (c_2:Tx0):Option (Bool×Tx0):=
  (q16 F s_1 c_2).bind fun x_3=>
  some (decide (x_3.1≥0),x_3.2)
def qb (_:Nat) (n_1:Int) (low_2:Int) (high_3:Int):Option (Bool):=
  some ((decide (n_1≥low_2))&&(decide (n_1≤high_3)))
def qc (F:Nat) (n_1:Int):Option (Bool):=
  (qb F n_1 23 4096).bind fun x_2=>
  some x_2
def qh (_:Nat) (s_1:(List Tx0)):Option ((List Tx0)):=
  (app 40 ([]:(List Tx0)) s_1).bind fun l_2=>
  some l_2
def q3c (F:Nat) (role_1:Int) (listeners_2:(List Tx0)):Option (Tx6×Int):=
  (qh F listeners_2).bind fun x_3=>
  some ((Tx6.mk role_1 0 x_3 [] [] 1 (Tx4.mk false []) [] 0 27),0)
def qi (F:Nat) (listeners_2:(List Tx0)) (x_4:Int):Option (Out (Int) (Sum (Unit) (Tx6×Int))):=
  if (decide (x_4<(len listeners_2)))=true then
    (idx listeners_2 x_4).bind fun x_5=>
    (sub listeners_2 0 x_4).bind fun l_6=>
    (q17 F l_6 x_5).bind fun x_7=>
    if (x_7.2.PSM == 0)=true then
      some (.done (.inr ((Tx6.mk 0 0 [] [] [] 0 (Tx4.mk false []) [] 0 0),1)))
    else
      if x_7.1=true then
        some (.done (.inr ((Tx6.mk 0 0 [] [] [] 0 (Tx4.mk false []) [] 0 0),7)))
      else
        (qc F x_7.2.MTU).bind fun x_8=>
        (if (!x_8)=true then
          some (true)
        else
          (qc F x_7.2.MPS).bind fun x_20=>
          some ((!x_20))).bind fun z_10=>
        (if z_10=true then
          some (true)
        else
          (qb F x_7.2.Credits 0 65535).bind fun x_18=>
          some ((!x_18))).bind fun z_12=>
        (if z_12=true then
          some (true)
        else
          (qb F x_7.2.Level 0 2).bind fun x_16=>
          some ((!x_16))).bind fun z_14=>
        if z_14=true then
          some (.done (.inr ((Tx6.mk 0 0 [] [] [] 0 (Tx4.mk false []) [] 0 0),5)))
        else
          some (.next (w64 (x_4+1)))
  else
    some (.done (.inl ()))
def qd (F:Nat) (role_1:Int) (listeners_2:(List Tx0)):Option (Tx6×Int):=
  if ((role_1 != 0)&&(role_1 != 1))=true then
    some ((Tx6.mk 0 0 [] [] [] 0 (Tx4.mk false []) [] 0 0),1)
  else
    if (decide ((len listeners_2) > 64))=true then
      some ((Tx6.mk 0 0 [] [] [] 0 (Tx4.mk false []) [] 0 0),4)
    else
      (iter (fun s=>qi F listeners_2 s) F (0)).bind fun o=>
      match o with
      | .inl _=>q3c F role_1 listeners_2
      | .inr u=>some u
def q18 (_:Nat) (s_1:(List Tx3)):Option ((List Tx3)):=
  (app 96 ([]:(List Tx3)) s_1).bind fun l_2=>
  some l_2
def q19 (_:Nat) (s_1:(List Tx1)):Option ((List Tx1)):=
  (app 136 ([]:(List Tx1)) s_1).bind fun l_2=>
  some l_2
def q1a (_:Nat) (s_1:(List Tx5)):Option ((List Tx5)):=
  (app 32 ([]:(List Tx5)) s_1).bind fun l_2=>
  some l_2
def q3d (_:Nat) (l_2:(List Int)):Option ((List Int)):=
  some l_2
def qj (_:Nat) (parts_1:(List (List Int))) (l_3:(List Int)) (x_4:Int):Option (Out ((List Int)×Int) ((List Int))):=
  if (decide (x_4<(len parts_1)))=true then
    (idx parts_1 x_4).bind fun x_5=>
    (app 1 l_3 x_5).bind fun l_6=>
    some (.next (l_6,w64 (x_4+1)))
  else
    some (.done (l_3))
def q6 (F:Nat) (parts_1:(List (List Int))):Option ((List Int)):=
  (iter (fun s=>qj F parts_1 s.1 s.2) F ([],0)).bind fun o=>
  q3d F o
def q3e (_:Nat) (l_2:(List (List Int))):Option ((List (List Int))):=
  some l_2
def qk (F:Nat) (l_1:(List (List Int))) (l_3:(List (List Int))) (x_4:Int):Option (Out ((List (List Int))×Int) ((List (List Int)))):=
  if (decide (x_4<(len l_1)))=true then
    (idx l_1 x_4).bind fun x_5=>
    (q6 F [x_5]).bind fun x_6=>
    (app 24 l_3 [x_6]).bind fun l_7=>
    some (.next (l_7,w64 (x_4+1)))
  else
    some (.done (l_3))
def q12 (F:Nat) (l_1:(List (List Int))):Option ((List (List Int))):=
  (iter (fun s=>qk F l_1 s.1 s.2) F ([],0)).bind fun o=>
  q3e F o
def q3f (F:Nat) (m_1:Tx6) (c_6:Tx6) (l_7:(List Tx1)) (l_8:(List Tx5)):Option (Tx8):=
  (q6 F [m_1.Assembler.Buffer]).bind fun x_9=>
  some (Tx8.mk ({ m_1 with Listeners:=c_6.Listeners,Channels:=l_7,Asked:=c_6.Asked,Assembler:={ m_1.Assembler with Buffer:=x_9 },Out:=l_8 }) [])
def ql (F:Nat) (c_6:Tx6) (l_10:(List Tx5)) (x_11:Int):Option (Out ((List Tx5)×Int) ((List Tx5))):=
  if (decide (x_11<(len c_6.Out)))=true then
    (idx l_10 x_11).bind fun x_12=>
    (q6 F [x_12.Payload]).bind fun x_15=>
    (idx l_10 x_11).bind fun _=>
    (idx l_10 x_11).bind fun x_17=>
    (upd l_10 x_11 ({ x_17 with Payload:=x_15 })).bind fun l_18=>
    some (.next (l_18,w64 (x_11+1)))
  else
    some (.done (l_10))
def q3g (F:Nat) (m_1:Tx6) (c_6:Tx6) (l_7:(List Tx1)):Option (Tx8):=
  (iter (fun s=>ql F c_6 s.1 s.2) F (c_6.Out,0)).bind fun o=>
  q3f F m_1 c_6 l_7 o
def qm (F:Nat) (c_6:Tx6) (l_19:(List Tx1)) (x_20:Int):Option (Out ((List Tx1)×Int) ((List Tx1))):=
  if (decide (x_20<(len c_6.Channels)))=true then
    (idx l_19 x_20).bind fun x_21=>
    (q12 F x_21.Out).bind fun x_664=>
    (q6 F [x_21.In]).bind fun x_984=>
    (idx l_19 x_20).bind fun _=>
    (idx l_19 x_20).bind fun x_1224=>
    (upd l_19 x_20 ({ x_1224 with Out:=x_664 })).bind fun l_1225=>
    (idx l_1225 x_20).bind fun _=>
    (idx l_1225 x_20).bind fun x_1464=>
    (upd l_1225 x_20 ({ x_1464 with In:=x_984 })).bind fun l_1465=>
    some (.next (l_1465,w64 (x_20+1)))
  else
    some (.done (l_19))
def q3h (F:Nat) (m_1:Tx6) (c_6:Tx6):Option (Tx8):=
  (iter (fun s=>qm F c_6 s.1 s.2) F (c_6.Channels,0)).bind fun o=>
  q3g F m_1 c_6 o
def q8 (F:Nat) (m_1:Tx6):Option (Tx8):=
  (qh F m_1.Listeners).bind fun x_1626=>
  (q18 F m_1.Asked).bind fun x_1627=>
  (q19 F m_1.Channels).bind fun x_1628=>
  (q1a F m_1.Out).bind fun x_1629=>
  q3h F m_1 ({ m_1 with Listeners:=x_1626,Channels:=x_1628,Asked:=x_1627,Out:=x_1629 })
def q51 (_:Nat):Option (Int):=
  some (-1)
def q3i (_:Nat) (s_1:(List Int)) (v_2:Int) (x_3:Int):Option (Out (Int) (Sum (Unit) (Int))):=
  if (decide (x_3<(len s_1)))=true then
    (idx s_1 x_3).bind fun x_4=>
    if (v_2 == x_4)=true then
      some (.done (.inr x_3))
    else
      some (.next (w64 (x_3+1)))
  else
    some (.done (.inl ()))
def q23 (F:Nat) (s_1:(List Int)) (v_2:Int):Option (Int):=
  (iter (fun s=>q3i F s_1 v_2 s) F (0)).bind fun o=>
  match o with
  | .inl _=>q51 F
  | .inr u=>some u
def q1b (F:Nat) (s_1:(List Int)) (v_2:Int):Option (Bool):=
  (q23 F s_1 v_2).bind fun x_3=>
  some (decide (x_3≥0))
def q1c (F:Nat) (cid_1:Int) (p_2:(List Int)):Option ((List Int)):=
  (q1b F p_2 cid_1).bind fun x_3=>
  if (!x_3)=true then
    (app 2 p_2 [cid_1]).bind fun l_4=>
    some l_4
  else
    some p_2
def q52 (_:Nat) (l_3:(List Int)):Option ((List Int)):=
  some l_3
def q3j (_:Nat) (x_5:Int) (l_6:(List Int)):Option (Out ((List Int)×Int) ((List Int))):=
  some (.next (l_6,w64 (x_5+1)))
def q3k (F:Nat) (x_1:Tx8) (l_4:(List Int)) (x_5:Int):Option (Out ((List Int)×Int) ((List Int))):=
  if (decide (x_5<(len x_1.Mux.Asked)))=true then
    (idx x_1.Mux.Asked x_5).bind fun x_7=>
    if ((x_7.Kind == 20)||(x_7.Kind == 6))=true then
      (q1c F x_7.Source l_4).bind fun x_8=>
      q3j F x_5 x_8
    else
      q3j F x_5 l_4
  else
    some (.done (l_4))
def q53 (F:Nat) (x_1:Tx8) (l_2:(List Int)):Option ((List Int)):=
  (iter (fun s=>q3k F x_1 s.1 s.2) F (l_2,0)).bind fun o=>
  q52 F o
def q3l (F:Nat) (x_1:Tx8) (l_9:(List Int)) (x_10:Int):Option (Out ((List Int)×Int) ((List Int))):=
  if (decide (x_10<(len x_1.Mux.Channels)))=true then
    (idx x_1.Mux.Channels x_10).bind fun x_11=>
    (q1c F x_11.Local l_9).bind fun x_12=>
    some (.next (x_12,w64 (x_10+1)))
  else
    some (.done (l_9))
def q24 (F:Nat) (x_1:Tx8):Option ((List Int)):=
  (iter (fun s=>q3l F x_1 s.1 s.2) F ([],0)).bind fun o=>
  q53 F x_1 o
def q54 (_:Nat) (x_3:Int):Option (Int×Bool):=
  some (x_3,true)
def q3m (F:Nat) (x_2:(List Int)) (x_4:Int):Option (Out (Int) (Int)):=
  (q1b F x_2 x_4).bind fun x_5=>
  if x_5=true then
    some (.next (wu16 (x_4+1)))
  else
    some (.done (x_4))
def q1d (F:Nat) (x_1:Tx8):Option (Int×Bool):=
  (q24 F x_1).bind fun x_2=>
  if (decide ((len x_2)≥16))=true then
    some (0,false)
  else
    (iter (fun s=>q3m F x_2 s) F (64)).bind fun o=>
    q54 F o
def q1e (_:Nat) (x_1:Tx8):Option (Bool):=
  some (decide ((len x_1.Mux.Out)≥64))
def q25 (_:Nat) (s_1:Tx3) (p_2:Int):Option (Bool×Int):=
  some ((s_1.ID == p_2),p_2)
def q55 (_:Nat) (x_3:Int):Option (Int×Int):=
  some ((-1),x_3)
def q3n (F:Nat) (s_1:(List Tx3)) (x_4:Int) (x_5:Int):Option (Out (Int×Int) (Sum (Int) (Int×Int))):=
  if (decide (x_5<(len s_1)))=true then
    (idx s_1 x_5).bind fun x_6=>
    (q25 F x_6 x_4).bind fun x_7=>
    if x_7.1=true then
      some (.done (.inr (x_5,x_7.2)))
    else
      some (.next (x_7.2,w64 (x_5+1)))
  else
    some (.done (.inl (x_4)))
def q26 (F:Nat) (s_1:(List Tx3)) (c_2:Int):Option (Int×Int):=
  (iter (fun s=>q3n F s_1 s.1 s.2) F (c_2,0)).bind fun o=>
  match o with
  | .inl u=>q55 F u
  | .inr u=>some u
def q27 (F:Nat) (s_1:(List Tx3)) (c_2:Int):Option (Bool×Int):=
  (q26 F s_1 c_2).bind fun x_3=>
  some (decide (x_3.1≥0),x_3.2)
def q56 (_:Nat) (x_1:Tx8) (x_2:Int):Option (Int×Tx8):=
  some (x_2,{ x_1 with Mux:={ x_1.Mux with NextID:=w64 ((remp x_2 255)+1) } })
def q3o (F:Nat) (x_1:Tx8) (x_4:Int) (x_5:Int):Option (Out (Int×Int) (Int)):=
  (q27 F x_1.Mux.Asked x_5).bind fun x_6=>
  if (!x_6.1)=true then
    some (.done (x_6.2))
  else
    some (.next (w64 (x_6.2+1),w64 (x_4+1)))
def q3p (F:Nat) (x_1:Tx8) (x_3:Int) (x_4:Int):Option (Out (Int×Int) (Int)):=
  if (decide (x_4<255))=true then
    if ((decide (x_3<1))||(decide (x_3 > 255)))=true then
      q3o F x_1 x_4 1
    else
      q3o F x_1 x_4 x_3
  else
    some (.done (x_3))
def q28 (F:Nat) (x_1:Tx8):Option (Int×Tx8):=
  (iter (fun s=>q3p F x_1 s.1 s.2) F (x_1.Mux.NextID,0)).bind fun o=>
  q56 F x_1 o
def qf (_:Nat) (z_2:Bool):Option (Bool):=
  if z_2=true then
    some true
  else
    some false
def q1f (F:Nat) (kind_1:Int):Option (Bool):=
  if (kind_1 == 1)=true then
    qf F (kind_1 == 1)
  else
    if (kind_1 == 6)=true then
      qf F (kind_1 == 6)
    else
      if (kind_1 == 7)=true then
        qf F (kind_1 == 7)
      else
        if (kind_1 == 18)=true then
          qf F (kind_1 == 18)
        else
          if (kind_1 == 19)=true then
            qf F (kind_1 == 19)
          else
            if (kind_1 == 20)=true then
              qf F (kind_1 == 20)
            else
              if (kind_1 == 21)=true then
                qf F (kind_1 == 21)
              else
                qf F (kind_1 == 22)
def qn (_:Nat) (s_1:Tx3) (c_14:Tx3):Option (Tx3):=
  some ({ c_14 with Kind:=s_1.Kind,ID:=s_1.ID })
def q57 (F:Nat) (s_1:Tx3):Option (Tx3):=
  qn F s_1 ({ s_1 with PSM:=0,MTU:=0,MPS:=0,Credits:=0,Result:=0,Update:=(Tx2.mk 0 0 0 0 0) })
def q3q (F:Nat) (s_1:Tx3):Option (Tx3):=
  q57 F s_1
def q3r (F:Nat) (s_1:Tx3):Option (Tx3):=
  qn F s_1 ({ s_1 with PSM:=0,Source:=0,Dest:=0,MTU:=0,MPS:=0,Credits:=0,Update:=(Tx2.mk 0 0 0 0 0) })
def q58 (F:Nat) (s_1:Tx3):Option (Tx3):=
  qn F s_1 ({ s_1 with Dest:=0,Result:=0,Update:=(Tx2.mk 0 0 0 0 0) })
def q59 (F:Nat) (s_1:Tx3):Option (Tx3):=
  qn F s_1 ({ s_1 with PSM:=0,Dest:=0,Update:=(Tx2.mk 0 0 0 0 0) })
def q5a (F:Nat) (s_1:Tx3):Option (Tx3):=
  qn F s_1 ({ s_1 with PSM:=0,Dest:=0,MTU:=0,MPS:=0,Result:=0,Update:=(Tx2.mk 0 0 0 0 0) })
def q29 (F:Nat) (s_1:Tx3):Option (Tx3):=
  if (s_1.Kind == 19)=true then
    q3r F s_1
  else
    if (s_1.Kind == 1)=true then
      q3r F s_1
    else
      if (s_1.Kind == 7)=true then
        q3q F s_1
      else
        if (s_1.Kind == 6)=true then
          q3q F s_1
        else
          if (s_1.Kind == 18)=true then
            qn F s_1 ({ s_1 with PSM:=0,Source:=0,Dest:=0,MTU:=0,MPS:=0,Credits:=0,Result:=0 })
          else
            if (s_1.Kind == 20)=true then
              q58 F s_1
            else
              if (s_1.Kind == 21)=true then
                q59 F s_1
              else
                if (s_1.Kind == 22)=true then
                  q5a F s_1
                else
                  qn F s_1 ({ s_1 with PSM:=0,Source:=0,Dest:=0,MTU:=0,MPS:=0,Credits:=0,Result:=0,Update:=(Tx2.mk 0 0 0 0 0) })
def q1g (_:Nat) (z_2:Bool):Option (Bool):=
  if z_2=true then
    some true
  else
    some false
def q2a (F:Nat) (s_1:Tx3):Option (Bool):=
  if (s_1.Kind == 1)=true then
    some ((s_1.Result == 0)||(s_1.Result == 2))
  else
    if (s_1.Kind == 19)=true then
      some ((s_1.Result == 0)||(s_1.Result == 1))
    else
      if (s_1.Kind == 21)=true then
        if (s_1.Result == 0)=true then
          q1g F (s_1.Result == 0)
        else
          if (s_1.Result == 2)=true then
            q1g F (s_1.Result == 2)
          else
            if (s_1.Result == 4)=true then
              q1g F (s_1.Result == 4)
            else
              if (s_1.Result == 5)=true then
                q1g F (s_1.Result == 5)
              else
                q1g F (s_1.Result == 9)
      else
        some true
def qe (_:Nat) (cid_1:Int):Option (Bool):=
  some ((decide (cid_1≥64))&&(decide (cid_1≤127)))
def q1h (_:Nat) (n_1:Int):Option (Bool):=
  some ((decide (n_1≥23))&&(decide (n_1≤4096)))
def q3s (F:Nat) (s_1:Tx3) (z_8:Bool):Option (Bool):=
  if z_8=true then
    (qe F s_1.Source).bind fun x_9=>
    (if x_9=true then
      (q1h F s_1.MTU).bind fun x_17=>
      some (x_17)
    else
      some (false)).bind fun z_11=>
    (if z_11=true then
      (q1h F s_1.MPS).bind fun x_15=>
      some (x_15)
    else
      some (false)).bind fun z_13=>
    some ((z_13&&(decide (s_1.Credits≥0)))&&(decide (s_1.Credits≤65535)))
  else
    if (s_1.Kind == 22)=true then
      (qe F s_1.Source).bind fun x_18=>
      some ((x_18&&(decide (s_1.Credits≥1)))&&(decide (s_1.Credits≤65535)))
    else
      some true
def q3t (F:Nat) (s_1:Tx3) (z_2:Bool):Option (Bool):=
  if z_2=true then
    (qe F s_1.Source).bind fun x_3=>
    (if x_3=true then
      (qe F s_1.Dest).bind fun x_7=>
      some (x_7)
    else
      some (false)).bind fun z_5=>
    some z_5
  else
    if (s_1.Kind == 20)=true then
      q3s F s_1 (s_1.Kind == 20)
    else
      q3s F s_1 (s_1.Kind == 21)
def q2b (F:Nat) (s_1:Tx3):Option (Bool):=
  if (s_1.Kind == 6)=true then
    q3t F s_1 (s_1.Kind == 6)
  else
    q3t F s_1 (s_1.Kind == 7)
def q5b (_:Nat):Option (Bool):=
  some true
def q3u (_:Nat) (all_1:(List Tx9)) (x_2:Int):Option (Out (Int) (Sum (Unit) (Bool))):=
  if (decide (x_2<(len all_1)))=true then
    (idx all_1 x_2).bind fun x_3=>
    if ((decide (x_3.n<x_3.low))||(decide (x_3.n > x_3.high)))=true then
      some (.done (.inr false))
    else
      some (.next (w64 (x_2+1)))
  else
    some (.done (.inl ()))
def q2c (F:Nat) (all_1:(List Tx9)):Option (Bool):=
  (iter (fun s=>q3u F all_1 s) F (0)).bind fun o=>
  match o with
  | .inl _=>q5b F
  | .inr u=>some u
def q2d (F:Nat) (u_1:Tx2):Option (Int):=
  (q2c F [(Tx9.mk u_1.WinSize 1 8),(Tx9.mk u_1.WinOffset 0 3200),(Tx9.mk u_1.Interval 6 3200),(Tx9.mk u_1.Latency 0 499),(Tx9.mk u_1.Timeout 10 3200)]).bind fun x_2=>
  if (!x_2)=true then
    some 5
  else
    if (((decide (u_1.WinSize≥u_1.Interval))||(decide (u_1.WinOffset > u_1.Interval)))||(decide ((w64 (u_1.Timeout * 10000))≤(w64 ((w64 ((w64 (2 * (w64 (u_1.Latency+1)))) * u_1.Interval)) * 1250)))))=true then
      some 11
    else
      some 0
def q5c (F:Nat) (s_1:Tx3) (z_3:Bool):Option (Int):=
  if z_3=true then
    some 1
  else
    (q2a F s_1).bind fun x_4=>
    if (!x_4)=true then
      some 5
    else
      if ((s_1.Kind == 21)&&(s_1.Result != 0))=true then
        if ((((s_1.Source != 0)||(s_1.MTU != 0))||(s_1.MPS != 0))||(s_1.Credits != 0))=true then
          some 1
        else
          some 0
      else
        if ((s_1.Kind == 20)&&(s_1.PSM == 0))=true then
          some 1
        else
          (q2b F s_1).bind fun x_5=>
          if (!x_5)=true then
            some 5
          else
            if (s_1.Kind == 18)=true then
              (q2d F s_1.Update).bind fun x_6=>
              some x_6
            else
              some 0
def q1i (F:Nat) (s_1:Tx3):Option (Int):=
  (q1f F s_1.Kind).bind fun x_2=>
  if (!x_2)=true then
    some 12
  else
    if ((decide (s_1.ID<1))||(decide (s_1.ID > 255)))=true then
      some 5
    else
      (q29 F s_1).bind fun x_9=>
      q5c F s_1 (!((s_1.Kind == x_9.Kind)&&((s_1.ID == x_9.ID)&&((s_1.PSM == x_9.PSM)&&((s_1.Source == x_9.Source)&&((s_1.Dest == x_9.Dest)&&((s_1.MTU == x_9.MTU)&&((s_1.MPS == x_9.MPS)&&((s_1.Credits == x_9.Credits)&&((s_1.Result == x_9.Result)&&((s_1.Update.WinSize == x_9.Update.WinSize)&&((s_1.Update.WinOffset == x_9.Update.WinOffset)&&((s_1.Update.Interval == x_9.Update.Interval)&&((s_1.Update.Latency == x_9.Update.Latency)&&(s_1.Update.Timeout == x_9.Update.Timeout)))))))))))))))
def q2e (_:Nat) (kind_1:Int) (z_3:Bool):Option ((List Int)):=
  if z_3=true then
    some [2,2]
  else
    if (kind_1 == 18)=true then
      some [1,2,2,2,2]
    else
      some [2,2,2,2,2]
def q3v (F:Nat) (kind_1:Int) (z_2:Bool):Option ((List Int)):=
  if z_2=true then
    some [2]
  else
    if (kind_1 == 6)=true then
      q2e F kind_1 (kind_1 == 6)
    else
      if (kind_1 == 7)=true then
        q2e F kind_1 (kind_1 == 7)
      else
        q2e F kind_1 (kind_1 == 22)
def qo (F:Nat) (kind_1:Int):Option ((List Int)):=
  if (kind_1 == 1)=true then
    q3v F kind_1 (kind_1 == 1)
  else
    q3v F kind_1 (kind_1 == 19)
def q3w (_:Nat) (s_1:Tx3) (z_3:Bool):Option ((List Int)):=
  if z_3=true then
    some [w64 s_1.Source,w64 s_1.Dest]
  else
    if (s_1.Kind == 18)=true then
      some [s_1.Update.WinSize,s_1.Update.WinOffset,s_1.Update.Interval,s_1.Update.Latency,s_1.Update.Timeout]
    else
      if (s_1.Kind == 20)=true then
        some [w64 s_1.PSM,w64 s_1.Source,s_1.MTU,s_1.MPS,s_1.Credits]
      else
        if (s_1.Kind == 21)=true then
          some [w64 s_1.Source,s_1.MTU,s_1.MPS,s_1.Credits,s_1.Result]
        else
          some [w64 s_1.Source,s_1.Credits]
def q3x (F:Nat) (s_1:Tx3) (z_2:Bool):Option ((List Int)):=
  if z_2=true then
    some [s_1.Result]
  else
    if (s_1.Kind == 6)=true then
      q3w F s_1 (s_1.Kind == 6)
    else
      q3w F s_1 (s_1.Kind == 7)
def q2f (F:Nat) (s_1:Tx3):Option ((List Int)):=
  if (s_1.Kind == 1)=true then
    q3x F s_1 (s_1.Kind == 1)
  else
    q3x F s_1 (s_1.Kind == 19)
def q1j (_:Nat) (n_1:Int):Option (Bool):=
  some ((decide (n_1≥1))&&(decide (n_1≤8)))
def q5d (_:Nat) (l_2:(List Int)):Option ((List Int)×Int):=
  some (l_2,0)
def q5e (_:Nat) (x_4:Int) (l_5:(List Int)):Option (Out ((List Int)×Int) (Sum ((List Int)) ((List Int)×Int))):=
  some (.next (l_5,w64 (x_4+1)))
def q3y (_:Nat) (x_6:Txa) (l_10:(List Int)) (x_11:Int):Option (Out ((List Int)×Int) ((List Int))):=
  if (decide (x_11<x_6.Size))=true then
    (ishr .u64 x_6.Value (w64 (8 * x_11))).bind fun x_12=>
    (app 1 l_10 [wu8 x_12]).bind fun l_13=>
    some (.next (l_13,w64 (x_11+1)))
  else
    some (.done (l_10))
def q3z (F:Nat) (fields_1:(List Txa)) (l_3:(List Int)) (x_4:Int):Option (Out ((List Int)×Int) (Sum ((List Int)) ((List Int)×Int))):=
  if (decide (x_4<(len fields_1)))=true then
    (idx fields_1 x_4).bind fun x_6=>
    (q1j F x_6.Size).bind fun x_7=>
    (if (!x_7)=true then
      some (true)
    else
      if (decide (x_6.Size<8))=true then
        (ishr .u64 x_6.Value (w64 (8 * x_6.Size))).bind fun x_16=>
        some ((x_16 != 0))
      else
        some (false)).bind fun z_9=>
    if z_9=true then
      some (.done (.inr ([],5)))
    else
      (iter (fun s=>q3y F x_6 s.1 s.2) F (l_3,0)).bind fun o=>
      q5e F x_4 o
  else
    some (.done (.inl (l_3)))
def q1k (F:Nat) (fields_1:(List Txa)):Option ((List Int)×Int):=
  (iter (fun s=>q3z F fields_1 s.1 s.2) F ([],0)).bind fun o=>
  match o with
  | .inl u=>q5d F u
  | .inr u=>some u
def q5f (F:Nat) (s_1:Tx3) (l_4:(List Txa)) (x_5:Int):Option ((List Int)×Int):=
  (q1k F l_4).bind fun x_6=>
  if (x_6.2 != 0)=true then
    some ([],x_6.2)
  else
    (q6 F [[wu8 s_1.Kind,wu8 s_1.ID,wu8 x_5,0],x_6.1]).bind fun x_7=>
    some (x_7,0)
def q40 (_:Nat) (x_3:(List Int)) (x_8:(List Int)) (l_9:(List Txa)) (x_10:Int) (x_11:Int):Option (Out ((List Txa)×Int×Int) ((List Txa)×Int)):=
  if (decide (x_11<(len x_8)))=true then
    (idx x_8 x_11).bind fun x_12=>
    (idx x_3 x_11).bind fun x_13=>
    (app 16 l_9 [(Txa.mk x_13 (wu64 x_12))]).bind fun l_14=>
    (idx x_3 x_11).bind fun x_15=>
    some (.next (l_14,w64 (x_10+x_15),w64 (x_11+1)))
  else
    some (.done (l_9,x_10))
def q2g (F:Nat) (s_1:Tx3):Option ((List Int)×Int):=
  (q1i F s_1).bind fun x_2=>
  if (x_2 != 0)=true then
    some ([],x_2)
  else
    (qo F s_1.Kind).bind fun x_3=>
    (q2f F s_1).bind fun x_8=>
    (iter (fun s=>q40 F x_3 x_8 s.1 s.2.1 s.2.2) F ([],0,0)).bind fun o=>
    q5f F s_1 o.1 o.2
def q1l (F:Nat) (x_1:Tx8) (cid_2:Int) (b_3:(List Int)):Option (Tx8):=
  (q6 F [b_3]).bind fun x_6=>
  (app 32 x_1.Mux.Out [(Tx5.mk cid_2 x_6)]).bind fun l_7=>
  some ({ x_1 with Mux:={ x_1.Mux with Out:=l_7 } })
def qp (F:Nat) (x_1:Tx8) (s_2:Tx3):Option (Tx8):=
  (q2g F s_2).bind fun x_3=>
  if (x_3.2 == 0)=true then
    (q1l F x_1 5 x_3.1).bind fun x_4=>
    some x_4
  else
    some x_1
def q2h (F:Nat) (x_1:Tx8) (s_2:Tx3):Option (Tx8):=
  (q28 F x_1).bind fun x_3=>
  (qp F x_3.2 ({ s_2 with ID:=x_3.1 })).bind fun x_4=>
  (app 96 x_4.Mux.Asked [{ s_2 with ID:=x_3.1 }]).bind fun l_7=>
  some ({ x_4 with Mux:={ x_4.Mux with Asked:=l_7 } })
def q2i (F:Nat) (m_1:Tx6) (psm_2:Int) (mtu_3:Int) (mps_4:Int) (credits_5:Int):Option (Tx6×Int×Int):=
  (q8 F m_1).bind fun x_6=>
  (q1d F x_6).bind fun x_7=>
  if (psm_2 == 0)=true then
    some (x_6.Mux,0,1)
  else
    (qc F mtu_3).bind fun x_8=>
    (if (!x_8)=true then
      some (true)
    else
      (qc F mps_4).bind fun x_21=>
      some ((!x_21))).bind fun z_10=>
    (if z_10=true then
      some (true)
    else
      (qb F credits_5 0 65535).bind fun x_19=>
      some ((!x_19))).bind fun z_12=>
    if z_12=true then
      some (x_6.Mux,0,5)
    else
      (if (!x_7.2)=true then
        some (true)
      else
        (q1e F x_6).bind fun x_17=>
        some (x_17)).bind fun z_14=>
      if z_14=true then
        some (x_6.Mux,0,8)
      else
        (q2h F x_6 (Tx3.mk 20 0 psm_2 x_7.1 0 mtu_3 mps_4 credits_5 0 (Tx2.mk 0 0 0 0 0))).bind fun x_15=>
        some (x_15.Mux,x_7.1,0)
def q2j (_:Nat) (s_1:Tx3) (p_2:Tx1):Option (Bool×Tx1):=
  some (((s_1.Kind == 6)&&(s_1.Source == p_2.Local)),p_2)
def q5g (_:Nat) (c_18:Tx1):Option (Int×Tx1):=
  some ((-1),c_18)
def q41 (F:Nat) (s_1:(List Tx3)) (c_34:Tx1) (x_35:Int):Option (Out (Tx1×Int) (Sum (Tx1) (Int×Tx1))):=
  if (decide (x_35<(len s_1)))=true then
    (idx s_1 x_35).bind fun x_36=>
    (q2j F x_36 c_34).bind fun x_37=>
    if x_37.1=true then
      some (.done (.inr (x_35,x_37.2)))
    else
      some (.next (x_37.2,w64 (x_35+1)))
  else
    some (.done (.inl (c_34)))
def q2k (F:Nat) (s_1:(List Tx3)) (c_2:Tx1):Option (Int×Tx1):=
  (iter (fun s=>q41 F s_1 s.1 s.2) F (c_2,0)).bind fun o=>
  match o with
  | .inl u=>q5g F u
  | .inr u=>some u
def q2l (F:Nat) (s_1:(List Tx3)) (c_2:Tx1):Option (Bool×Tx1):=
  (q2k F s_1 c_2).bind fun x_3=>
  some (decide (x_3.1≥0),x_3.2)
def qq (F:Nat) (x_1:Tx8) (c_2:Tx1):Option (Bool):=
  (q2l F x_1.Mux.Asked c_2).bind fun x_3=>
  some x_3.1
def q5h (_:Nat) (x_1:Tx8):Option (Tx8):=
  some x_1
def q42 (_:Nat):Option (Out (Unit) (Unit)):=
  some (.done ())
def q5i (F:Nat) (x_1:Tx8):Option (Tx8):=
  (iter (fun s=>q42 F) F ()).bind fun _=>
  q5h F x_1
def q43 (F:Nat) (x_1:Tx8) (x_3:Int):Option (Out (Int) (Unit)):=
  if (decide (x_3<(len x_1.Mux.Channels)))=true then
    (idx x_1.Mux.Channels x_3).bind fun x_4=>
    (qq F x_1 x_4).bind fun x_5=>
    if x_5=true then
      some (.next (w64 (x_3+1)))
    else
      none
  else
    some (.done ())
def q2m (F:Nat) (x_1:Tx8):Option (Tx8):=
  (mk 24 ([]:(List (List Int))) (len x_1.Mux.Channels)).bind fun _=>
  (iter (fun s=>q43 F x_1 s) F (0)).bind fun _=>
  q5i F x_1
def q2n (F:Nat) (f_1:Tx5):Option ((List Int)×Int):=
  if (f_1.CID == 0)=true then
    some ([],1)
  else
    if (decide ((len f_1.Payload) > 65531))=true then
      some ([],4)
    else
      (q1k F [(Txa.mk 2 (wu64 (len f_1.Payload))),(Txa.mk 2 (wu64 f_1.CID))]).bind fun x_2=>
      if (x_2.2 != 0)=true then
        some ([],x_2.2)
      else
        (q6 F [x_2.1,f_1.Payload]).bind fun x_3=>
        some (x_3,0)
def q5j (_:Nat) (c_15:Tx8) (x_19:(List Int)) (x_20:Int) (c_23:Tx8):Option (Tx6×Txb×Bool):=
  some ({ c_15.Mux with Out:=c_23.Mux.Out,Sent:=c_23.Mux.Sent },(Txb.mk x_20 x_19),true)
def q44 (F:Nat) (c_15:Tx8) (x_19:(List Int)) (x_20:Int) (c_23:Tx8):Option (Tx6×Txb×Bool):=
  q5j F c_15 x_19 x_20 c_23
def q45 (F:Nat) (c_15:Tx8) (x_17:(List Int)×Int) (x_19:(List Int)) (x_20:Int):Option (Tx6×Txb×Bool):=
  if (decide ((w64 ((imax 0 (imin c_15.Mux.Sent (len x_17.1)))+(imin (w64 ((len x_17.1) - (imax 0 (imin c_15.Mux.Sent (len x_17.1))))) (imax 27 (imin c_15.Mux.Length 251)))))≥(len x_17.1)))=true then
    (sub c_15.Mux.Out 1 (len c_15.Mux.Out)).bind fun l_26=>
    q44 F c_15 x_19 x_20 ({ c_15 with Mux:={ c_15.Mux with Out:=l_26,Sent:=0 } })
  else
    q44 F c_15 x_19 x_20 ({ c_15 with Mux:={ c_15.Mux with Sent:=w64 ((imax 0 (imin c_15.Mux.Sent (len x_17.1)))+(imin (w64 ((len x_17.1) - (imax 0 (imin c_15.Mux.Sent (len x_17.1))))) (imax 27 (imin c_15.Mux.Length 251)))) } })
def q46 (F:Nat) (c_15:Tx8):Option (Tx6×Txb×Bool):=
  if ((len c_15.Mux.Out) == 0)=true then
    some (c_15.Mux,(Txb.mk 0 []),false)
  else
    (idx c_15.Mux.Out 0).bind fun x_16=>
    (q2n F x_16).bind fun x_17=>
    (sub x_17.1 (imax 0 (imin c_15.Mux.Sent (len x_17.1))) (w64 ((imax 0 (imin c_15.Mux.Sent (len x_17.1)))+(imin (w64 ((len x_17.1) - (imax 0 (imin c_15.Mux.Sent (len x_17.1))))) (imax 27 (imin c_15.Mux.Length 251)))))).bind fun l_18=>
    (q6 F [l_18]).bind fun x_19=>
    if (c_15.Mux.Sent == 0)=true then
      q45 F c_15 x_17 x_19 2
    else
      q45 F c_15 x_17 x_19 1
def q1m (F:Nat) (m_1:Tx6):Option (Tx6×Txb×Bool):=
  (q8 F m_1).bind fun x_2=>
  if ((len x_2.Mux.Out) == 0)=true then
    (q2m F x_2).bind fun x_27=>
    q46 F x_27
  else
    q46 F x_2
def q5k (_:Nat) (a_1:Tx4) (l_2:(List Int)):Option (Tx4):=
  some ({ a_1 with Buffer:=l_2 })
def q1n (F:Nat) (a_1:Tx4):Option (Tx4):=
  (q6 F [a_1.Buffer]).bind fun x_5=>
  q5k F a_1 x_5
def q5l (_:Nat) (x_2:Int) (x_3:Int):Option (Int×Int):=
  some (x_2,x_3)
def q2o (F:Nat) (b_1:(List Int)):Option (Int×Int):=
  (idx b_1 0).bind fun x_4=>
  (idx b_1 1).bind fun x_5=>
  (idx b_1 2).bind fun x_6=>
  (idx b_1 3).bind fun x_7=>
  q5l F (ior .i64 (w64 x_4) (shlp .i64 (w64 x_5) 8)) (ior .u16 (wu16 x_6) (shlp .u16 (wu16 x_7) 8))
def q47 (_:Nat) (x_5:Int):Option (Tx4×(List Tx5)×Int):=
  some ((Tx4.mk false []),[],x_5)
def q48 (F:Nat) (e_2:Int) (x_4:Int):Option (Tx4×(List Tx5)×Int):=
  if (e_2 == 0)=true then
    q47 F x_4
  else
    q47 F e_2
def q2p (F:Nat) (b_1:(List Int)) (e_2:Int):Option (Tx4×(List Tx5)×Int):=
  if (decide ((len b_1)<4))=true then
    some ((Tx4.mk true b_1),[],e_2)
  else
    (q2o F b_1).bind fun x_3=>
    if (x_3.2 == 0)=true then
      q48 F e_2 1
    else
      if ((decide (x_3.1 > 65531))||(decide ((w64 ((len b_1) - 4)) > x_3.1)))=true then
        q48 F e_2 4
      else
        if (decide ((w64 ((len b_1) - 4))<x_3.1))=true then
          some ((Tx4.mk true b_1),[],e_2)
        else
          (sub b_1 4 (len b_1)).bind fun l_6=>
          (q6 F [l_6]).bind fun x_7=>
          some ((Tx4.mk false []),[(Tx5.mk x_3.2 x_7)],e_2)
def q49 (F:Nat) (x_5:Int) (l_6:(List Int)):Option (Tx4×(List Tx5)×Int):=
  (q2p F l_6 x_5).bind fun x_7=>
  some (x_7.1,x_7.2.1,x_7.2.2)
def q4a (F:Nat) (p_2:Txb) (x_8:Int):Option (Tx4×(List Tx5)×Int):=
  (q6 F [p_2.Payload]).bind fun x_9=>
  q49 F x_8 x_9
def q20 (F:Nat) (a_1:Tx4) (p_2:Txb):Option (Tx4×(List Tx5)×Int):=
  if ((p_2.LLID == 1)&&((len p_2.Payload) == 0))=true then
    (q1n F a_1).bind fun x_3=>
    some (x_3,[],0)
  else
    if (((p_2.LLID != 1)&&(p_2.LLID != 2))||((len p_2.Payload) == 0))=true then
      (q1n F a_1).bind fun x_4=>
      some (x_4,[],12)
    else
      if (p_2.LLID == 2)=true then
        if (!((!a_1.On)&&((len a_1.Buffer) == 0)))=true then
          q4a F p_2 13
        else
          q4a F p_2 0
      else
        if ((!a_1.On)&&((len a_1.Buffer) == 0))=true then
          some ((Tx4.mk false []),[],13)
        else
          (q6 F [a_1.Buffer,p_2.Payload]).bind fun x_10=>
          q49 F 0 x_10
def q2q (_:Nat) (c_1:Tx1) (p_2:Int):Option (Bool×Int):=
  some ((c_1.Local == p_2),p_2)
def q5m (_:Nat) (x_3:Int):Option (Int×Int):=
  some ((-1),x_3)
def q4b (F:Nat) (s_1:(List Tx1)) (x_4:Int) (x_5:Int):Option (Out (Int×Int) (Sum (Int) (Int×Int))):=
  if (decide (x_5<(len s_1)))=true then
    (idx s_1 x_5).bind fun x_6=>
    (q2q F x_6 x_4).bind fun x_7=>
    if x_7.1=true then
      some (.done (.inr (x_5,x_7.2)))
    else
      some (.next (x_7.2,w64 (x_5+1)))
  else
    some (.done (.inl (x_4)))
def q2r (F:Nat) (s_1:(List Tx1)) (c_2:Int):Option (Int×Int):=
  (iter (fun s=>q4b F s_1 s.1 s.2) F (c_2,0)).bind fun o=>
  match o with
  | .inl u=>q5m F u
  | .inr u=>some u
def q1o (F:Nat) (x_1:Tx8) (cid_2:Int):Option (Int):=
  (q2r F x_1.Mux.Channels cid_2).bind fun x_3=>
  some x_3.1
def qr (_:Nat) (x_1:Tx8) (e_2:Tx7):Option (Tx8):=
  (app 96 x_1.events [e_2]).bind fun l_5=>
  some ({ x_1 with events:=l_5 })
def q5n (F:Nat) (l_4:(List Int)) (l_5:(List Int)):Option ((List Int)×(List Int)×Int):=
  (q6 F [l_4]).bind fun x_6=>
  some (l_5,x_6,0)
def q5o (_:Nat) (x_9:Int) (l_10:(List Int)) (l_11:(List Int)):Option (Out ((List Int)×(List Int)×Int) ((List Int)×(List Int))):=
  some (.next (l_10,l_11,w64 (x_9+1)))
def q5p (F:Nat) (l_7:(List Int)) (l_8:(List Int)) (x_9:Int) (x_12:Int) (x_13:Int):Option (Out ((List Int)×(List Int)×Int) ((List Int)×(List Int))):=
  (app 8 l_8 [x_13]).bind fun l_14=>
  (sub l_7 x_12 (len l_7)).bind fun l_15=>
  q5o F x_9 l_15 l_14
def q4c (_:Nat) (l_7:(List Int)) (x_12:Int) (x_16:Int) (x_17:Int):Option (Out (Int×Int) (Int)):=
  if (decide (x_17<x_12))=true then
    (idx l_7 x_17).bind fun x_18=>
    (ishl .u64 (wu64 x_18) (w64 (8 * x_17))).bind fun x_19=>
    some (.next (ior .u64 x_16 x_19,w64 (x_17+1)))
  else
    some (.done (x_16))
def q4d (F:Nat) (sizes_2:(List Int)) (l_7:(List Int)) (l_8:(List Int)) (x_9:Int):Option (Out ((List Int)×(List Int)×Int) ((List Int)×(List Int))):=
  if (decide (x_9<(len sizes_2)))=true then
    (idx sizes_2 x_9).bind fun x_12=>
    (iter (fun s=>q4c F l_7 x_12 s.1 s.2) F (0,0)).bind fun o=>
    q5p F l_7 l_8 x_9 x_12 o
  else
    some (.done (l_7,l_8))
def q5q (F:Nat) (b_1:(List Int)) (sizes_2:(List Int)) (x_3:Int):Option ((List Int)×(List Int)×Int):=
  if (decide ((len b_1)<x_3))=true then
    some ([],[],3)
  else
    (iter (fun s=>q4d F sizes_2 s.1 s.2.1 s.2.2) F (b_1,[],0)).bind fun o=>
    q5n F o.1 o.2
def q4e (F:Nat) (sizes_2:(List Int)) (x_20:Int) (x_21:Int):Option (Out (Int×Int) (Sum (Int) ((List Int)×(List Int)×Int))):=
  if (decide (x_21<(len sizes_2)))=true then
    (idx sizes_2 x_21).bind fun x_22=>
    (q1j F x_22).bind fun x_23=>
    if (!x_23)=true then
      some (.done (.inr ([],[],5)))
    else
      some (.next (w64 (x_20+x_22),w64 (x_21+1)))
  else
    some (.done (.inl (x_20)))
def q2s (F:Nat) (b_1:(List Int)) (sizes_2:(List Int)):Option ((List Int)×(List Int)×Int):=
  (iter (fun s=>q4e F sizes_2 s.1 s.2) F (0,0)).bind fun o=>
  match o with
  | .inl u=>q5q F b_1 sizes_2 u
  | .inr u=>some u
def q7 (_:Nat) (i_1:Int) (p_2:(List Int)):Option (Int×(List Int)):=
  (idx p_2 i_1).bind fun x_3=>
  some (w64 x_3,p_2)
def q9 (_:Nat) (i_1:Int) (p_2:(List Int)):Option (Int×(List Int)):=
  (idx p_2 i_1).bind fun x_3=>
  some (wu16 x_3,p_2)
def qs (_:Nat) (s_1:Tx3) (c_15:Tx3):Option (Tx3):=
  some ({ c_15 with Kind:=s_1.Kind,ID:=s_1.ID })
def q4f (F:Nat) (s_1:Tx3) (l_2:(List Int)) (z_18:Bool):Option (Tx3):=
  if z_18=true then
    (q9 F 0 l_2).bind fun x_19=>
    (q9 F 1 x_19.2).bind fun x_20=>
    qs F s_1 ({ s_1 with Source:=x_19.1,Dest:=x_20.1 })
  else
    if (s_1.Kind == 18)=true then
      (q7 F 0 l_2).bind fun x_21=>
      (q7 F 1 x_21.2).bind fun x_22=>
      (q7 F 2 x_22.2).bind fun x_23=>
      (q7 F 3 x_23.2).bind fun x_24=>
      (q7 F 4 x_24.2).bind fun x_25=>
      qs F s_1 ({ s_1 with Update:=(Tx2.mk x_21.1 x_22.1 x_23.1 x_24.1 x_25.1) })
    else
      if (s_1.Kind == 20)=true then
        (q9 F 0 l_2).bind fun x_26=>
        (q9 F 1 x_26.2).bind fun x_27=>
        (q7 F 2 x_27.2).bind fun x_28=>
        (q7 F 3 x_28.2).bind fun x_29=>
        (q7 F 4 x_29.2).bind fun x_30=>
        qs F s_1 ({ s_1 with PSM:=x_26.1,Source:=x_27.1,MTU:=x_28.1,MPS:=x_29.1,Credits:=x_30.1 })
      else
        if (s_1.Kind == 21)=true then
          (q9 F 0 l_2).bind fun x_31=>
          (q7 F 1 x_31.2).bind fun x_32=>
          (q7 F 2 x_32.2).bind fun x_33=>
          (q7 F 3 x_33.2).bind fun x_34=>
          (q7 F 4 x_34.2).bind fun x_35=>
          qs F s_1 ({ s_1 with Source:=x_31.1,MTU:=x_32.1,MPS:=x_33.1,Credits:=x_34.1,Result:=x_35.1 })
        else
          if (s_1.Kind == 22)=true then
            (q9 F 0 l_2).bind fun x_36=>
            (q7 F 1 x_36.2).bind fun x_37=>
            qs F s_1 ({ s_1 with Source:=x_36.1,Credits:=x_37.1 })
          else
            qs F s_1 s_1
def q4g (F:Nat) (s_1:Tx3) (l_2:(List Int)) (z_16:Bool):Option (Tx3):=
  if z_16=true then
    (q7 F 0 l_2).bind fun x_17=>
    qs F s_1 ({ s_1 with Result:=x_17.1 })
  else
    if (s_1.Kind == 6)=true then
      q4f F s_1 l_2 (s_1.Kind == 6)
    else
      q4f F s_1 l_2 (s_1.Kind == 7)
def q2t (F:Nat) (s_1:Tx3) (l_2:(List Int)):Option (Tx3):=
  if (s_1.Kind == 1)=true then
    q4g F s_1 l_2 (s_1.Kind == 1)
  else
    q4g F s_1 l_2 (s_1.Kind == 19)
def q5r (F:Nat) (c_4:Tx3) (l_8:(List Int)) (l_9:(List Int)) (x_10:Int):Option (Tx3×Int):=
  if (x_10 != 0)=true then
    some ((Tx3.mk 0 0 0 0 0 0 0 0 0 (Tx2.mk 0 0 0 0 0)),x_10)
  else
    if (decide ((len l_9) > 0))=true then
      some ((Tx3.mk 0 0 0 0 0 0 0 0 0 (Tx2.mk 0 0 0 0 0)),2)
    else
      (q2t F ({ c_4 with PSM:=0,Source:=0,Dest:=0,MTU:=0,MPS:=0,Credits:=0,Result:=0,Update:=(Tx2.mk 0 0 0 0 0) }) l_8).bind fun x_11=>
      (q1i F x_11).bind fun x_12=>
      if (x_12 != 0)=true then
        some ((Tx3.mk 0 0 0 0 0 0 0 0 0 (Tx2.mk 0 0 0 0 0)),x_12)
      else
        some (x_11,0)
def q5s (F:Nat) (b_1:(List Int)) (c_4:Tx3) (x_5:Int) (x_6:Int):Option (Tx3×Int):=
  (q1f F c_4.Kind).bind fun x_7=>
  if (!x_7)=true then
    some ((Tx3.mk 0 0 0 0 0 0 0 0 0 (Tx2.mk 0 0 0 0 0)),12)
  else
    if (c_4.ID == 0)=true then
      some ((Tx3.mk 0 0 0 0 0 0 0 0 0 (Tx2.mk 0 0 0 0 0)),5)
    else
      if (x_5 != x_6)=true then
        some ((Tx3.mk 0 0 0 0 0 0 0 0 0 (Tx2.mk 0 0 0 0 0)),2)
      else
        (sub b_1 4 (len b_1)).bind fun l_15=>
        (qo F c_4.Kind).bind fun x_16=>
        (q2s F l_15 x_16).bind fun x_17=>
        q5r F c_4 x_17.1 x_17.2.1 x_17.2.2
def q4h (_:Nat) (x_18:(List Int)) (x_19:Int) (x_20:Int):Option (Out (Int×Int) (Int)):=
  if (decide (x_20<(len x_18)))=true then
    (idx x_18 x_20).bind fun x_21=>
    some (.next (w64 (x_19+x_21),w64 (x_20+1)))
  else
    some (.done (x_19))
def q5t (F:Nat) (b_1:(List Int)) (c_4:Tx3) (x_5:Int):Option (Tx3×Int):=
  (qo F c_4.Kind).bind fun x_18=>
  (iter (fun s=>q4h F x_18 s.1 s.2) F (0,0)).bind fun o=>
  q5s F b_1 c_4 x_5 o
def q5u (F:Nat) (b_1:(List Int)) (c_4:Tx3):Option (Tx3×Int):=
  (idx b_1 2).bind fun x_22=>
  (idx b_1 3).bind fun x_23=>
  q5t F b_1 c_4 (ior .i64 (w64 x_22) (shlp .i64 (w64 x_23) 8))
def q2u (F:Nat) (b_1:(List Int)):Option (Tx3×Int):=
  if (decide ((len b_1)<4))=true then
    some ((Tx3.mk 0 0 0 0 0 0 0 0 0 (Tx2.mk 0 0 0 0 0)),3)
  else
    (idx b_1 0).bind fun x_26=>
    (idx b_1 1).bind fun x_27=>
    q5u F b_1 (Tx3.mk (w64 x_26) (w64 x_27) 0 0 0 0 0 0 0 (Tx2.mk 0 0 0 0 0))
def q1p (_:Nat):Option (Unit):=
  some ()
def q2v (_:Nat) (l_1:Tx0) (p_2:Tx3):Option (Bool×Tx3):=
  some ((l_1.PSM == p_2.PSM),p_2)
def q5v (_:Nat) (c_17:Tx3):Option (Int×Tx3):=
  some ((-1),c_17)
def q4i (F:Nat) (s_1:(List Tx0)) (c_32:Tx3) (x_33:Int):Option (Out (Tx3×Int) (Sum (Tx3) (Int×Tx3))):=
  if (decide (x_33<(len s_1)))=true then
    (idx s_1 x_33).bind fun x_34=>
    (q2v F x_34 c_32).bind fun x_35=>
    if x_35.1=true then
      some (.done (.inr (x_33,x_35.2)))
    else
      some (.next (x_35.2,w64 (x_33+1)))
  else
    some (.done (.inl (c_32)))
def q2w (F:Nat) (s_1:(List Tx0)) (c_2:Tx3):Option (Int×Tx3):=
  (iter (fun s=>q4i F s_1 s.1 s.2) F (c_2,0)).bind fun o=>
  match o with
  | .inl u=>q5v F u
  | .inr u=>some u
def q2x (_:Nat) (c_1:Tx1) (p_2:Int):Option (Bool×Int):=
  some ((c_1.Remote == p_2),p_2)
def q5w (_:Nat) (x_3:Int):Option (Int×Int):=
  some ((-1),x_3)
def q4j (F:Nat) (s_1:(List Tx1)) (x_4:Int) (x_5:Int):Option (Out (Int×Int) (Sum (Int) (Int×Int))):=
  if (decide (x_5<(len s_1)))=true then
    (idx s_1 x_5).bind fun x_6=>
    (q2x F x_6 x_4).bind fun x_7=>
    if x_7.1=true then
      some (.done (.inr (x_5,x_7.2)))
    else
      some (.next (x_7.2,w64 (x_5+1)))
  else
    some (.done (.inl (x_4)))
def q2y (F:Nat) (s_1:(List Tx1)) (c_2:Int):Option (Int×Int):=
  (iter (fun s=>q4j F s_1 s.1 s.2) F (c_2,0)).bind fun o=>
  match o with
  | .inl u=>q5w F u
  | .inr u=>some u
def q1q (F:Nat) (x_1:Tx8) (cid_2:Int):Option (Int):=
  (q2y F x_1.Mux.Channels cid_2).bind fun x_3=>
  some x_3.1
def q5x (F:Nat) (x_1:Tx8) (x_3:Int×Tx3) (x_4:Int×Bool) (z_5:Bool):Option (Tx0×Int):=
  if z_5=true then
    some ((Tx0.mk 0 0 0 0 0),5)
  else
    if (!x_4.2)=true then
      some ((Tx0.mk 0 0 0 0 0),4)
    else
      (q1q F x_1 x_3.2.Source).bind fun x_6=>
      if (decide (x_6≥0))=true then
        some ((Tx0.mk 0 0 0 0 0),9)
      else
        (idx x_1.Mux.Listeners x_3.1).bind fun x_7=>
        some (x_7,0)
def q2z (F:Nat) (x_1:Tx8) (s_2:Tx3):Option (Tx0×Int):=
  (q2w F x_1.Mux.Listeners s_2).bind fun x_3=>
  (q1d F x_1).bind fun x_4=>
  if (decide (x_3.1<0))=true then
    some ((Tx0.mk 0 0 0 0 0),2)
  else
    (idx x_1.Mux.Listeners x_3.1).bind fun x_8=>
    q5x F x_1 x_3 x_4 (decide (x_1.Mux.Level<x_8.Level))
def q30 (F:Nat) (x_1:Tx8) (s_2:Tx3):Option (Tx8):=
  (q2z F x_1 s_2).bind fun x_3=>
  if (x_3.2 != 0)=true then
    (qp F x_1 ({ s_2 with Kind:=21,PSM:=0,Source:=0,Dest:=0,MTU:=0,MPS:=0,Credits:=0,Result:=x_3.2,Update:=(Tx2.mk 0 0 0 0 0) })).bind fun x_4=>
    some x_4
  else
    none
def q31 (_:Nat) (request_1:Tx3) (answer_2:Tx3):Option (Bool):=
  if (request_1.ID != answer_2.ID)=true then
    some false
  else
    if (request_1.Kind == 20)=true then
      some ((answer_2.Kind == 21)||(answer_2.Kind == 1))
    else
      if (request_1.Kind == 6)=true then
        some ((answer_2.Kind == 1)||(((answer_2.Kind == 7)&&(answer_2.Source == request_1.Source))&&(answer_2.Dest == request_1.Dest)))
      else
        if (request_1.Kind == 18)=true then
          some ((answer_2.Kind == 19)||(answer_2.Kind == 1))
        else
          some false
def q32 (F:Nat) (r_1:Tx3) (p_2:Tx3):Option (Bool×Tx3):=
  (q31 F r_1 p_2).bind fun x_3=>
  some (x_3,p_2)
def q5y (_:Nat) (c_17:Tx3):Option (Int×Tx3):=
  some ((-1),c_17)
def q4k (F:Nat) (s_1:(List Tx3)) (c_32:Tx3) (x_33:Int):Option (Out (Tx3×Int) (Sum (Tx3) (Int×Tx3))):=
  if (decide (x_33<(len s_1)))=true then
    (idx s_1 x_33).bind fun x_34=>
    (q32 F x_34 c_32).bind fun x_35=>
    if x_35.1=true then
      some (.done (.inr (x_33,x_35.2)))
    else
      some (.next (x_35.2,w64 (x_33+1)))
  else
    some (.done (.inl (c_32)))
def q33 (F:Nat) (s_1:(List Tx3)) (c_2:Tx3):Option (Int×Tx3):=
  (iter (fun s=>q4k F s_1 s.1 s.2) F (c_2,0)).bind fun o=>
  match o with
  | .inl u=>q5y F u
  | .inr u=>some u
def q21 (_:Nat) (s_1:(List Tx3)) (i_2:Int) (j_3:Int):Option ((List Tx3)):=
  if 0≤i_2∧i_2≤j_3∧j_3≤(s_1.length:Int) then
    some (s_1.take i_2.toNat++s_1.drop j_3.toNat)
  else
    none
def q34 (F:Nat) (x_1:Tx8) (s_2:Tx3):Option (Tx3×Bool×Tx8):=
  (q33 F x_1.Mux.Asked s_2).bind fun x_3=>
  if (decide (x_3.1<0))=true then
    some ((Tx3.mk 0 0 0 0 0 0 0 0 0 (Tx2.mk 0 0 0 0 0)),false,x_1)
  else
    (idx x_1.Mux.Asked x_3.1).bind fun x_4=>
    (q21 F x_1.Mux.Asked x_3.1 (w64 (x_3.1+1))).bind fun x_5=>
    some (x_4,true,{ x_1 with Mux:={ x_1.Mux with Asked:=x_5 } })
def q35 (F:Nat) (x_1:Tx8) (s_2:Tx3):Option (Tx8):=
  (q34 F x_1 s_2).bind fun x_3=>
  if (!x_3.2.1)=true then
    some x_3.2.2
  else
    if (s_2.Result != 0)=true then
      (qr F x_3.2.2 (Tx7.mk 5 x_3.1.Source [] s_2.Result (Tx2.mk 0 0 0 0 0) 0)).bind fun x_4=>
      some x_4
    else
      (q1q F x_3.2.2 s_2.Source).bind fun x_5=>
      if (decide (x_5≥0))=true then
        (qr F x_3.2.2 (Tx7.mk 5 x_3.1.Source [] 9 (Tx2.mk 0 0 0 0 0) 0)).bind fun x_6=>
        some x_6
      else
        none
def q4l (_:Nat) (c_16:Tx8):Option (Tx8):=
  some c_16
def q36 (F:Nat) (x_1:Tx8) (b_2:(List Int)):Option (Tx8):=
  (q2u F b_2).bind fun x_3=>
  if (x_3.2 != 0)=true then
    (if (decide ((len b_2)≥2))=true then
      (idx b_2 1).bind fun x_26=>
      some ((x_26 != 0))
    else
      some (false)).bind fun z_18=>
    (if z_18=true then
      (idx b_2 0).bind fun x_24=>
      some ((x_24 != 1))
    else
      some (false)).bind fun z_20=>
    if z_20=true then
      (idx b_2 1).bind fun x_21=>
      (qp F x_1 (Tx3.mk 1 (w64 x_21) 0 0 0 0 0 0 0 (Tx2.mk 0 0 0 0 0))).bind fun x_22=>
      q4l F x_22
    else
      q4l F x_1
  else
    if (x_3.1.Kind == 20)=true then
      (q1p F).bind fun _=>
      (q30 F x_1 x_3.1).bind fun x_31=>
      some x_31
    else
      if (x_3.1.Kind == 21)=true then
        (q1p F).bind fun _=>
        (q35 F x_1 x_3.1).bind fun x_36=>
        some x_36
      else
        none
def q5z (_:Nat) (c_20:Tx8):Option (Tx6×(List Tx7)):=
  some (c_20.Mux,c_20.events)
def q60 (F:Nat) (c_20:Tx8):Option (Tx6×(List Tx7)):=
  q5z F c_20
def q37 (_:Nat) (x_36:Int) (c_49:Tx8):Option (Out (Tx8×Int) (Tx8)):=
  some (.next (c_49,w64 (x_36+1)))
def q4m (F:Nat) (l_7:(List Tx5)) (c_35:Tx8) (x_36:Int):Option (Out (Tx8×Int) (Tx8)):=
  if (decide (x_36<(len l_7)))=true then
    (idx l_7 x_36).bind fun x_50=>
    (q1o F c_35 x_50.CID).bind fun x_51=>
    if ((x_50.CID == 4)||(x_50.CID == 6))=true then
      (qr F c_35 (Tx7.mk 1 x_50.CID x_50.Payload 0 (Tx2.mk 0 0 0 0 0) 0)).bind fun x_52=>
      q37 F x_36 x_52
    else
      if (x_50.CID == 5)=true then
        (q36 F c_35 x_50.Payload).bind fun x_53=>
        q37 F x_36 x_53
      else
        (if (decide (x_51≥0))=true then
          (idx c_35.Mux.Channels x_51).bind fun x_57=>
          (qq F c_35 x_57).bind fun x_58=>
          some ((!x_58))
        else
          some (false)).bind fun z_55=>
        if z_55=true then
          none
        else
          q37 F x_36 c_35
  else
    some (.done (c_35))
def q61 (F:Nat) (x_3:Tx8) (c_6:Tx4) (l_7:(List Tx5)):Option (Tx6×(List Tx7)):=
  (iter (fun s=>q4m F l_7 s.1 s.2) F ({ x_3 with Mux:={ x_3.Mux with Assembler:=c_6 } },0)).bind fun o=>
  q60 F o
def q1r (F:Nat) (m_1:Tx6) (p_2:Txb):Option (Tx6×(List Tx7)):=
  (q8 F m_1).bind fun x_3=>
  (q20 F x_3.Mux.Assembler p_2).bind fun x_541=>
  q61 F x_3 x_541.1 x_541.2.1
def q38 (F:Nat) (m_1:Tx6) (cid_2:Int) (b_3:(List Int)):Option (Tx6×Int):=
  (q8 F m_1).bind fun x_4=>
  if ((cid_2 != 4)&&(cid_2 != 6))=true then
    some (x_4.Mux,5)
  else
    if (decide ((len b_3) > 4096))=true then
      some (x_4.Mux,4)
    else
      (q1e F x_4).bind fun x_5=>
      if x_5=true then
        some (x_4.Mux,8)
      else
        (q1l F x_4 cid_2 b_3).bind fun x_6=>
        some (x_6.Mux,0)
def q39 (F:Nat) (x_1:Tx8) (cid_2:Int):Option (Int×Int):=
  (q1o F x_1 cid_2).bind fun x_3=>
  if (decide (x_3<0))=true then
    some (0,6)
  else
    (idx x_1.Mux.Channels x_3).bind fun x_4=>
    (qq F x_1 x_4).bind fun x_5=>
    if x_5=true then
      some (0,9)
    else
      some (x_3,0)
def q3a (F:Nat) (m_1:Tx6) (cid_2:Int) (_:(List Int)):Option (Tx6×Int):=
  (q8 F m_1).bind fun x_4=>
  (q39 F x_4 cid_2).bind fun x_5=>
  if (x_5.2 != 0)=true then
    some (x_4.Mux,x_5.2)
  else
    none
def qa (_:Nat) (a_1:(List Int)) (b_2:(List Int)):Option (Bool):=
  some ((str a_1) == (str b_2))
def q13 (F:Nat):Option (Bool):=
  (qd F 0 []).bind fun x_1=>
  (qd F 1 []).bind fun x_2=>
  (q2i F x_1.1 128 40 30 4).bind fun x_3=>
  (q1m F x_3.1).bind fun x_4=>
  (q1r F x_2.1 x_4.2.1).bind fun x_5=>
  (q1m F x_5.1).bind fun x_6=>
  (q1r F x_4.1 x_6.2.1).bind fun x_7=>
  (q38 F x_4.1 5 []).bind fun x_8=>
  (q3a F x_4.1 64 []).bind fun x_9=>
  if ((((((((x_1.2 != 0)||(x_2.2 != 0))||(x_3.2.2 != 0))||(x_3.2.1 != 64))||(!x_4.2.2))||((len x_7.2) != 1))||(x_8.2 != 5))||(x_9.2 != 6))=true then
    some false
  else
    (if (x_4.2.1.LLID == 2)=true then
      (qa F x_4.2.1.Payload [14,0,5,0,20,1,10,0,128,0,64,0,40,0,30,0,4,0]).bind fun x_25=>
      some (x_25)
    else
      some (false)).bind fun z_11=>
    (if z_11=true then
      (idx x_7.2 0).bind fun x_23=>
      some ((x_23.Kind == 5))
    else
      some (false)).bind fun z_13=>
    (if z_13=true then
      (idx x_7.2 0).bind fun x_21=>
      some ((x_21.CID == 64))
    else
      some (false)).bind fun z_15=>
    (if z_15=true then
      (idx x_7.2 0).bind fun x_19=>
      some ((x_19.Result == 2))
    else
      some (false)).bind fun z_17=>
    some z_17
def q14 (_:Nat) (n_1:Int):Option (Bool):=
  some ((decide (n_1≥23))&&(decide (n_1≤4096)))
def q22 (_:Nat) (n_1:Int):Option (Bool):=
  some ((decide (n_1≥0))&&(decide (n_1≤65535)))
def q4n (_:Nat) (role_1:Int) (listeners_2:(List Tx0)):Option (Tx6×Int):=
  (app 40 ([]:(List Tx0)) listeners_2).bind fun l_3=>
  some ((Tx6.mk role_1 0 l_3 [] [] 1 (Tx4.mk false []) [] 0 27),0)
def q4o (_:Nat) (x_4:Int):Option (Out (Int) (Sum (Unit) (Tx6×Int))):=
  some (.next (w64 (x_4+1)))
def q4p (F:Nat) (x_4:Int) (x_5:Tx0):Option (Out (Int) (Sum (Unit) (Tx6×Int))):=
  (q14 F x_5.MTU).bind fun x_6=>
  (if (!x_6)=true then
    some (true)
  else
    (q14 F x_5.MPS).bind fun x_14=>
    some ((!x_14))).bind fun z_8=>
  (if z_8=true then
    some (true)
  else
    (q22 F x_5.Credits).bind fun x_12=>
    some ((!x_12))).bind fun z_10=>
  if ((z_10||(decide (x_5.Level<0)))||(decide (x_5.Level > 2)))=true then
    some (.done (.inr ((Tx6.mk 0 0 [] [] [] 0 (Tx4.mk false []) [] 0 0),5)))
  else
    q4o F x_4
def q4q (_:Nat) (x_15:Int) (z_16:Bool):Option (Out (Int) (Sum (Unit) (Tx6×Int))):=
  if z_16=true then
    some (.done (.inr ((Tx6.mk 0 0 [] [] [] 0 (Tx4.mk false []) [] 0 0),7)))
  else
    some (.next (w64 (x_15+1)))
def qt (F:Nat) (listeners_2:(List Tx0)) (x_4:Int) (x_5:Tx0) (x_15:Int):Option (Out (Int) (Sum (Unit) (Tx6×Int))):=
  if (decide (x_15<x_4))=true then
    (idx listeners_2 x_15).bind fun x_17=>
    q4q F x_15 (x_17.PSM == x_5.PSM)
  else
    some (.done (.inl ()))
def qu (F:Nat) (listeners_2:(List Tx0)) (x_4:Int):Option (Out (Int) (Sum (Unit) (Tx6×Int))):=
  if (decide (x_4<(len listeners_2)))=true then
    (idx listeners_2 x_4).bind fun x_5=>
    if (x_5.PSM == 0)=true then
      some (.done (.inr ((Tx6.mk 0 0 [] [] [] 0 (Tx4.mk false []) [] 0 0),1)))
    else
      (iter (fun s=>qt F listeners_2 x_4 x_5 s) F (0)).bind fun o=>
      match o with
      | .inl _=>q4p F x_4 x_5
      | .inr u=>some (.done (.inr u))
  else
    some (.done (.inl ()))
def q1s (F:Nat) (role_1:Int) (listeners_2:(List Tx0)):Option (Tx6×Int):=
  if ((role_1 != 0)&&(role_1 != 1))=true then
    some ((Tx6.mk 0 0 [] [] [] 0 (Tx4.mk false []) [] 0 0),1)
  else
    if (decide ((len listeners_2) > 64))=true then
      some ((Tx6.mk 0 0 [] [] [] 0 (Tx4.mk false []) [] 0 0),4)
    else
      (iter (fun s=>qu F listeners_2 s) F (0)).bind fun o=>
      match o with
      | .inl _=>q4n F role_1 listeners_2
      | .inr u=>some u
def q4r (_:Nat):Option (Bool):=
  some true
def q4s (_:Nat) (x_3:Int) (z_4:Bool):Option (Out (Int) (Sum (Unit) (Bool))):=
  if z_4=true then
    some (.done (.inr false))
  else
    some (.next (w64 (x_3+1)))
def qw (F:Nat) (a_1:(List (List Int))) (b_2:(List (List Int))) (x_3:Int):Option (Out (Int) (Sum (Unit) (Bool))):=
  if (decide (x_3<(len a_1)))=true then
    (idx a_1 x_3).bind fun x_5=>
    (idx b_2 x_3).bind fun x_6=>
    (qa F x_5 x_6).bind fun x_9=>
    q4s F x_3 (!x_9)
  else
    some (.done (.inl ()))
def q1t (F:Nat) (a_1:(List (List Int))) (b_2:(List (List Int))):Option (Bool):=
  if ((len a_1) != (len b_2))=true then
    some false
  else
    (iter (fun s=>qw F a_1 b_2 s) F (0)).bind fun o=>
    match o with
    | .inl _=>q4r F
    | .inr u=>some u
def q1u (F:Nat) (a_1:Tx1) (b_2:Tx1):Option (Bool):=
  if (((((((a_1.Local != b_2.Local)||(a_1.Remote != b_2.Remote))||(a_1.PSM != b_2.PSM))||(a_1.MTU != b_2.MTU))||(a_1.MPS != b_2.MPS))||(a_1.PeerMTU != b_2.PeerMTU))||(a_1.PeerMPS != b_2.PeerMPS))=true then
    some false
  else
    if ((((((a_1.TxCredits != b_2.TxCredits)||(a_1.RxCredits != b_2.RxCredits))||(a_1.Given != b_2.Given))||(a_1.Sent != b_2.Sent))||(a_1.Want != b_2.Want))||(a_1.Failed != b_2.Failed))=true then
      some false
    else
      (q1t F a_1.Out b_2.Out).bind fun x_3=>
      (if x_3=true then
        (qa F a_1.In b_2.In).bind fun x_7=>
        some (x_7)
      else
        some (false)).bind fun z_5=>
      some z_5
def q1v (F:Nat) (a_1:Tx4) (b_2:Tx4):Option (Bool):=
  (if (a_1.On == b_2.On)=true then
    (qa F a_1.Buffer b_2.Buffer).bind fun x_6=>
    some (x_6)
  else
    some (false)).bind fun z_4=>
  some z_4
def q62 (_:Nat):Option (Bool):=
  some true
def q3b (_:Nat) (x_3:Int) (z_4:Bool):Option (Out (Int) (Sum (Unit) (Bool))):=
  if z_4=true then
    some (.done (.inr false))
  else
    some (.next (w64 (x_3+1)))
def qx (F:Nat) (a_1:(List Tx5)) (b_2:(List Tx5)) (x_3:Int):Option (Out (Int) (Sum (Unit) (Bool))):=
  if (decide (x_3<(len a_1)))=true then
    (idx a_1 x_3).bind fun x_5=>
    (idx b_2 x_3).bind fun x_6=>
    if (x_5.CID != x_6.CID)=true then
      q3b F x_3 true
    else
      (qa F x_5.Payload x_6.Payload).bind fun x_10=>
      q3b F x_3 (!x_10)
  else
    some (.done (.inl ()))
def q1w (F:Nat) (a_1:(List Tx5)) (b_2:(List Tx5)):Option (Bool):=
  if ((len a_1) != (len b_2))=true then
    some false
  else
    (iter (fun s=>qx F a_1 b_2 s) F (0)).bind fun o=>
    match o with
    | .inl _=>q62 F
    | .inr u=>some u
def q4t (F:Nat) (a_1:Tx6) (b_2:Tx6):Option (Bool):=
  (q1v F a_1.Assembler b_2.Assembler).bind fun x_3=>
  (if x_3=true then
    (q1w F a_1.Out b_2.Out).bind fun x_7=>
    some (x_7)
  else
    some (false)).bind fun z_5=>
  some z_5
def q4u (_:Nat) (x_8:Int) (z_9:Bool):Option (Out (Int) (Sum (Unit) (Bool))):=
  if z_9=true then
    some (.done (.inr false))
  else
    some (.next (w64 (x_8+1)))
def qy (F:Nat) (a_1:Tx6) (b_2:Tx6) (x_8:Int):Option (Out (Int) (Sum (Unit) (Bool))):=
  if (decide (x_8<(len a_1.Asked)))=true then
    (idx a_1.Asked x_8).bind fun x_10=>
    (idx b_2.Asked x_8).bind fun x_11=>
    q4u F x_8 (!((x_10.Kind == x_11.Kind)&&((x_10.ID == x_11.ID)&&((x_10.PSM == x_11.PSM)&&((x_10.Source == x_11.Source)&&((x_10.Dest == x_11.Dest)&&((x_10.MTU == x_11.MTU)&&((x_10.MPS == x_11.MPS)&&((x_10.Credits == x_11.Credits)&&((x_10.Result == x_11.Result)&&((x_10.Update.WinSize == x_11.Update.WinSize)&&((x_10.Update.WinOffset == x_11.Update.WinOffset)&&((x_10.Update.Interval == x_11.Update.Interval)&&((x_10.Update.Latency == x_11.Update.Latency)&&(x_10.Update.Timeout == x_11.Update.Timeout)))))))))))))))
  else
    some (.done (.inl ()))
def q4v (F:Nat) (a_1:Tx6) (b_2:Tx6):Option (Bool):=
  (iter (fun s=>qy F a_1 b_2 s) F (0)).bind fun o=>
  match o with
  | .inl _=>q4t F a_1 b_2
  | .inr u=>some u
def q4w (_:Nat) (x_14:Int) (z_15:Bool):Option (Out (Int) (Sum (Unit) (Bool))):=
  if z_15=true then
    some (.done (.inr false))
  else
    some (.next (w64 (x_14+1)))
def qz (F:Nat) (a_1:Tx6) (b_2:Tx6) (x_14:Int):Option (Out (Int) (Sum (Unit) (Bool))):=
  if (decide (x_14<(len a_1.Channels)))=true then
    (idx a_1.Channels x_14).bind fun x_16=>
    (idx b_2.Channels x_14).bind fun x_17=>
    (q1u F x_16 x_17).bind fun x_20=>
    q4w F x_14 (!x_20)
  else
    some (.done (.inl ()))
def q4x (F:Nat) (a_1:Tx6) (b_2:Tx6):Option (Bool):=
  (iter (fun s=>qz F a_1 b_2 s) F (0)).bind fun o=>
  match o with
  | .inl _=>q4v F a_1 b_2
  | .inr u=>some u
def q4y (_:Nat) (x_21:Int) (z_22:Bool):Option (Out (Int) (Sum (Unit) (Bool))):=
  if z_22=true then
    some (.done (.inr false))
  else
    some (.next (w64 (x_21+1)))
def q10 (F:Nat) (a_1:Tx6) (b_2:Tx6) (x_21:Int):Option (Out (Int) (Sum (Unit) (Bool))):=
  if (decide (x_21<(len a_1.Listeners)))=true then
    (idx a_1.Listeners x_21).bind fun x_23=>
    (idx b_2.Listeners x_21).bind fun x_24=>
    q4y F x_21 (!((x_23.PSM == x_24.PSM)&&((x_23.MTU == x_24.MTU)&&((x_23.MPS == x_24.MPS)&&((x_23.Credits == x_24.Credits)&&(x_23.Level == x_24.Level))))))
  else
    some (.done (.inl ()))
def q11 (F:Nat) (a_1:Tx6) (b_2:Tx6):Option (Bool):=
  if ((((((((a_1.Role != b_2.Role)||(a_1.Level != b_2.Level))||(a_1.NextID != b_2.NextID))||(a_1.Sent != b_2.Sent))||(a_1.Length != b_2.Length))||((len a_1.Listeners) != (len b_2.Listeners)))||((len a_1.Channels) != (len b_2.Channels)))||((len a_1.Asked) != (len b_2.Asked)))=true then
    some false
  else
    (iter (fun s=>q10 F a_1 b_2 s) F (0)).bind fun o=>
    match o with
    | .inl _=>q4x F a_1 b_2
    | .inr u=>some u
def q1x (F:Nat) (m_1:Tx6) (level_2:Int):Option (Tx6):=
  (q8 F m_1).bind fun x_3=>
  some ({ x_3.Mux with Level:=imax 0 (imin level_2 2) })
def q1y (_:Nat) (m_1:Tx6) (level_2:Int):Option (Tx6):=
  some ({ m_1 with Level:=imin (imax level_2 0) 2 })
def q4z (_:Nat) (z_9:Bool):Option (Bool):=
  some z_9
def q15 (F:Nat) (role_1:Int) (l_2:(List Tx0)) (level_3:Int):Option (Bool):=
  if (decide ((len l_2) > 100))=true then
    (q13 F).bind fun x_4=>
    some x_4
  else
    (qd F role_1 l_2).bind fun x_5=>
    (q1s F role_1 l_2).bind fun x_6=>
    (if (x_5.2 != x_6.2)=true then
      some (true)
    else
      (q11 F x_5.1 x_6.1).bind fun x_18=>
      some ((!x_18))).bind fun z_8=>
    if z_8=true then
      some false
    else
      (q1x F x_5.1 level_3).bind fun x_12=>
      (q1y F x_6.1 level_3).bind fun x_13=>
      (q11 F x_12 x_13).bind fun x_14=>
      if x_14=true then
        (q13 F).bind fun x_16=>
        q4z F x_16
      else
        q4z F false
end V
end Go.Proofs.YtbgfhaahhdnogaaGreat
