/- Pure twins of the Go functions, wn by program. -/
import Derived.Test.YtbgfhaahhdnogaaGreatPure
namespace Go.Proofs.YtbgfhaahhdnogaaGreat
namespace V
structure eZ where
 bU:Int
 bZ:Int
 cu:Int
 aA:Int
 Level:Int
structure jo where
 bL:Int
 aX:Int
 Interval:Int
 aO:Int
 Timeout:Int
structure D5 where
 Side:Int
 Kind:Int
 N:Int
 bU:Int
 aU:Int
 bZ:Int
 cu:Int
 aA:Int
 Bytes:List Int
 Update:jo
structure uq where
 ak:((List eZ)×List eZ)
 bH:(Int×Int)
 eG:List D5
structure aS where
 Local:Int
 Remote:Int
 bU:Int
 bZ:Int
 cu:Int
 jv:Int
 dn:Int
 aN:Int
 aF:Int
 Given:Int
 Out:(List (List Int))
 aR:Int
 In:List Int
 Want:Int
 Failed:Bool
structure aT where
 Kind:Int
 ID:Int
 bU:Int
 Source:Int
 bR:Int
 bZ:Int
 cu:Int
 aA:Int
 Result:Int
 Update:jo
structure jU where
 On:Bool
 Buffer:List Int
structure bM where
 aU:Int
 Payload:List Int
structure aL where
 iU:Int
 Level:Int
 ak:List eZ
 aj:List aS
 aD:List aT
 dB:Int
 ay:jU
 Out:List bM
 aR:Int
 Length:Int
structure gD where
 Kind:Int
 aU:Int
 Data:List Int
 Result:Int
 Update:jo
 ID:Int
structure bJ where
 aB:aL
 events:List gD
structure vT where
 n:Int
 low:Int
 high:Int
structure sV where
 Size:Int
 Value:Int
structure eT where
 dH:Int
 Payload:List Int
structure bD where
 sides:(aL×aL)
 aK:((List eT)×List eT)
 au:(Nat→(List (List Int)))
 fixed:((List bM)×List bM)
 connects:(Nat→Bool)
 params:Int
 data:Bool
 frame:Bool
 answer:Bool
def q6a(_:Nat)(t_1:uq)(x_2:Int):Option (Bool):=
 some ((((decide ((len t_1.eG)≤60))&&(decide (x_2≤4096)))&&(decide ((len t_1.ak.1)≤10)))&&(decide ((len t_1.ak.2)≤10)))
def qx(_:Nat)(t_1:uq)(x_3:Int)(cO:Int):Option (Out (Int×Int) (Sum (Int) (Bool))):=
 if ((decide (cO<(len t_1.eG)))&&(decide (cO<60)))=true then
 (idx t_1.eG cO).bind fun fB=>
 if (decide ((len fB.Bytes)>4096))=true then
 some (.done (.inr false))
 else
 (idx t_1.eG cO).bind fun iV=>
 some (.next (aI (x_3+(len iV.Bytes)),aI (cO+1)))
 else
 some (.done (.inl (x_3)))
def q3x(F:Nat)(t_1:uq):Option (Bool):=
 (iter (fun s=>qx F t_1 s.1 s.2) F (0,0)).bind fun o=>
 match o with
 | .inl u=>q6a F t_1 u
 | .inr u=>some u
def q58(_:Nat)(o_1:eZ)(mq:eZ):Option (Bool×eZ):=
 some ((o_1.bU==mq.bU),mq)
def q84(_:Nat)(c_8:eZ):Option (Int×eZ):=
 some ((-1),c_8)
def WU(F:Nat)(s_1:List eZ)(Oi:eZ)(pY:Int):Option (Out (eZ×Int) (Sum (eZ) (Int×eZ))):=
 if (decide (pY<(len s_1)))=true then
 (idx s_1 pY).bind fun qH=>
 (q58 F qH Oi).bind fun gU=>
 if gU.1=true then
 some (.done (.inr (pY,gU.2)))
 else
 some (.next (gU.2,aI (pY+1)))
 else
 some (.done (.inl (Oi)))
def q3y(F:Nat)(s_1:List eZ)(c_2:eZ):Option (Int×eZ):=
 (iter (fun s=>WU F s_1 s.1 s.2) F (c_2,0)).bind fun o=>
 match o with
 | .inl u=>q84 F u
 | .inr u=>some u
def q3z(F:Nat)(s_1:List eZ)(c_2:eZ):Option (Bool×eZ):=
 (q3y F s_1 c_2).bind fun x_3=>
 some (decide (x_3.1≥0),x_3.2)
def qn(_:Nat)(Jw:Int)(abY:Int)(Zz:Int):Option (Bool):=
 some ((decide (Jw≥abY))&&(decide (Jw≤Zz)))
def qy(F:Nat)(Jw:Int):Option (Bool):=
 (qn F Jw 23 4096).bind fun x_2=>
 some x_2
def q24(_:Nat)(s_1:List eZ):Option ((List eZ)):=
 (app 40 ([]:List eZ) s_1).bind fun sS=>
 some sS
def q6b(F:Nat)(lX:Int)(bW:List eZ):Option (aL×Int):=
 (q24 F bW).bind fun x_3=>
 some ((aL.mk lX 0 x_3 [] [] 1 (jU.mk false []) [] 0 27),0)
def WT(F:Nat)(bW:List eZ)(cO:Int):Option (Out (Int) (Sum (Unit) (aL×Int))):=
 if (decide (cO<(len bW)))=true then
 (idx bW cO).bind fun fB=>
 (sub bW 0 cO).bind fun NN=>
 (q3z F NN fB).bind fun jf=>
 if (jf.2.bU==0)=true then
 some (.done (.inr ((aL.mk 0 0 [] [] [] 0 (jU.mk false []) [] 0 0),1)))
 else
 if jf.1=true then
 some (.done (.inr ((aL.mk 0 0 [] [] [] 0 (jU.mk false []) [] 0 0),7)))
 else
 (qy F jf.2.bZ).bind fun F3=>
 (if (!F3)=true then
 some (true)
 else
 (qy F jf.2.cu).bind fun jG=>
 some ((!jG))).bind fun OU=>
 (if OU=true then
 some (true)
 else
 (qn F jf.2.aA 0 65535).bind fun iw=>
 some ((!iw))).bind fun XB=>
 (if XB=true then
 some (true)
 else
 (qn F jf.2.Level 0 2).bind fun qH=>
 some ((!qH))).bind fun Xz=>
 if Xz=true then
 some (.done (.inr ((aL.mk 0 0 [] [] [] 0 (jU.mk false []) [] 0 0),5)))
 else
 some (.next (aI (cO+1)))
 else
 some (.done (.inl ()))
def YT(F:Nat)(lX:Int)(bW:List eZ):Option (aL×Int):=
 if ((lX != 0)&&(lX != 1))=true then
 some ((aL.mk 0 0 [] [] [] 0 (jU.mk false []) [] 0 0),1)
 else
 if (decide ((len bW)>64))=true then
 some ((aL.mk 0 0 [] [] [] 0 (jU.mk false []) [] 0 0),4)
 else
 (iter (fun s=>WT F bW s) F (0)).bind fun o=>
 match o with
 | .inl _=>q6b F lX bW
 | .inr u=>some u
def q40(_:Nat)(s_1:List aT):Option ((List aT)):=
 (app 96 ([]:List aT) s_1).bind fun sS=>
 some sS
def q41(_:Nat)(s_1:List aS):Option ((List aS)):=
 (app 136 ([]:List aS) s_1).bind fun sS=>
 some sS
def q42(_:Nat)(s_1:List bM):Option ((List bM)):=
 (app 32 ([]:List bM) s_1).bind fun sS=>
 some sS
def q6c(_:Nat)(sS:List Int):Option ((List Int)):=
 some sS
def qo(_:Nat)(yX:List (List Int))(OM:List Int)(cO:Int):Option (Out ((List Int)×Int) ((List Int))):=
 if (decide (cO<(len yX)))=true then
 (idx yX cO).bind fun fB=>
 (app 1 OM fB).bind fun NN=>
 some (.next (NN,aI (cO+1)))
 else
 some (.done (OM))
def q9(F:Nat)(yX:List (List Int)):Option ((List Int)):=
 (iter (fun s=>qo F yX s.1 s.2) F ([],0)).bind fun o=>
 q6c F o
def q6d(_:Nat)(sS:List (List Int)):Option ((List (List Int))):=
 some sS
def WR(F:Nat)(l_1:List (List Int))(OM:List (List Int))(cO:Int):Option (Out ((List (List Int))×Int) ((List (List Int)))):=
 if (decide (cO<(len l_1)))=true then
 (idx l_1 cO).bind fun fB=>
 (q9 F [fB]).bind fun iV=>
 (app 24 OM [iV]).bind fun vW=>
 some (.next (vW,aI (cO+1)))
 else
 some (.done (OM))
def q3h(F:Nat)(l_1:List (List Int)):Option ((List (List Int))):=
 (iter (fun s=>WR F l_1 s.1 s.2) F ([],0)).bind fun o=>
 q6d F o
def q6e(F:Nat)(m_1:aL)(JA:aL)(vW:List aS)(Jy:List bM):Option (bJ):=
 (q9 F [m_1.ay.Buffer]).bind fun sK=>
 some (bJ.mk ({ m_1 with ak:=JA.ak,aj:=vW,aD:=JA.aD,ay:={ m_1.ay with Buffer:=sK },Out:=Jy }) [])
def WQ(F:Nat)(JA:aL)(Ct:List bM)(lg:Int):Option (Out ((List bM)×Int) ((List bM))):=
 if (decide (lg<(len JA.Out)))=true then
 (idx Ct lg).bind fun oK=>
 (q9 F [oK.Payload]).bind fun pY=>
 (idx Ct lg).bind fun _=>
 (idx Ct lg).bind fun gU=>
 (upd Ct lg ({ gU with Payload:=pY })).bind fun Y6=>
 some (.next (Y6,aI (lg+1)))
 else
 some (.done (Ct))
def q6f(F:Nat)(m_1:aL)(JA:aL)(vW:List aS):Option (bJ):=
 (iter (fun s=>WQ F JA s.1 s.2) F (JA.Out,0)).bind fun o=>
 q6e F m_1 JA vW o
def WO(F:Nat)(JA:aL)(yF:List aS)(jG:Int):Option (Out ((List aS)×Int) ((List aS))):=
 if (decide (jG<(len JA.aj)))=true then
 (idx yF jG).bind fun j5=>
 (q3h F j5.Out).bind fun aaY=>
 (q9 F [j5.In]).bind fun aaV=>
 (idx yF jG).bind fun _=>
 (idx yF jG).bind fun XY=>
 (upd yF jG ({ XY with Out:=aaY })).bind fun Ka=>
 (idx Ka jG).bind fun _=>
 (idx Ka jG).bind fun XW=>
 (upd Ka jG ({ XW with In:=aaV })).bind fun Y7=>
 some (.next (Y7,aI (jG+1)))
 else
 some (.done (yF))
def q6g(F:Nat)(m_1:aL)(JA:aL):Option (bJ):=
 (iter (fun s=>WO F JA s.1 s.2) F (JA.aj,0)).bind fun o=>
 q6f F m_1 JA o
def qf(F:Nat)(m_1:aL):Option (bJ):=
 (q24 F m_1.ak).bind fun XT=>
 (q40 F m_1.aD).bind fun XR=>
 (q41 F m_1.aj).bind fun XQ=>
 (q42 F m_1.Out).bind fun XP=>
 q6g F m_1 ({ m_1 with ak:=XT,aj:=XQ,aD:=XR,Out:=XP })
def q85(_:Nat):Option (Int):=
 some (-1)
def WM(_:Nat)(s_1:List Int)(v_2:Int)(x_3:Int):Option (Out (Int) (Sum (Unit) (Int))):=
 if (decide (x_3<(len s_1)))=true then
 (idx s_1 x_3).bind fun cO=>
 if (v_2==cO)=true then
 some (.done (.inr x_3))
 else
 some (.next (aI (x_3+1)))
 else
 some (.done (.inl ()))
def q59(F:Nat)(s_1:List Int)(v_2:Int):Option (Int):=
 (iter (fun s=>WM F s_1 v_2 s) F (0)).bind fun o=>
 match o with
 | .inl _=>q85 F
 | .inr u=>some u
def q2a(F:Nat)(s_1:List Int)(v_2:Int):Option (Bool):=
 (q59 F s_1 v_2).bind fun x_3=>
 some (decide (x_3≥0))
def q2b(F:Nat)(BK:Int)(mq:List Int):Option ((List Int)):=
 (q2a F mq BK).bind fun x_3=>
 if (!x_3)=true then
 (app 2 mq [BK]).bind fun LA=>
 some LA
 else
 some mq
def q86(_:Nat)(OM:List Int):Option ((List Int)):=
 some OM
def q5w(_:Nat)(fB:Int)(NN:List Int):Option (Out ((List Int)×Int) ((List Int))):=
 some (.next (NN,aI (fB+1)))
def Ut(F:Nat)(x_1:bJ)(LA:List Int)(fB:Int):Option (Out ((List Int)×Int) ((List Int))):=
 if (decide (fB<(len x_1.aB.aD)))=true then
 (idx x_1.aB.aD fB).bind fun jf=>
 if ((jf.Kind==20)||(jf.Kind==6))=true then
 (q2b F jf.Source LA).bind fun F3=>
 q5w F fB F3
 else
 q5w F fB LA
 else
 some (.done (LA))
def q6h(F:Nat)(x_1:bJ)(sS:List Int):Option ((List Int)):=
 (iter (fun s=>Ut F x_1 s.1 s.2) F (sS,0)).bind fun o=>
 q86 F o
def Us(F:Nat)(x_1:bJ)(Y1:List Int)(zy:Int):Option (Out ((List Int)×Int) ((List Int))):=
 if (decide (zy<(len x_1.aB.aj)))=true then
 (idx x_1.aB.aj zy).bind fun lg=>
 (q2b F lg.Local Y1).bind fun oK=>
 some (.next (oK,aI (zy+1)))
 else
 some (.done (Y1))
def q43(F:Nat)(x_1:bJ):Option ((List Int)):=
 (iter (fun s=>Us F x_1 s.1 s.2) F ([],0)).bind fun o=>
 q6h F x_1 o
def q87(_:Nat)(x_3:Int):Option (Int×Bool):=
 some (x_3,true)
def WK(F:Nat)(x_2:List Int)(cO:Int):Option (Out (Int) (Int)):=
 (q2a F x_2 cO).bind fun fB=>
 if fB=true then
 some (.next (jV (cO+1)))
 else
 some (.done (cO))
def q1b(F:Nat)(x_1:bJ):Option (Int×Bool):=
 (q43 F x_1).bind fun x_2=>
 if (decide ((len x_2)≥16))=true then
 some (0,false)
 else
 (iter (fun s=>WK F x_2 s) F (64)).bind fun o=>
 q87 F o
def qz(_:Nat)(x_1:bJ):Option (Bool):=
 some (decide ((len x_1.aB.Out)≥64))
def q5a(_:Nat)(s_1:aT)(mq:Int):Option (Bool×Int):=
 some ((s_1.ID==mq),mq)
def q88(_:Nat)(x_3:Int):Option (Int×Int):=
 some ((-1),x_3)
def WJ(F:Nat)(s_1:List aT)(cO:Int)(fB:Int):Option (Out (Int×Int) (Sum (Int) (Int×Int))):=
 if (decide (fB<(len s_1)))=true then
 (idx s_1 fB).bind fun iV=>
 (q5a F iV cO).bind fun jf=>
 if jf.1=true then
 some (.done (.inr (fB,jf.2)))
 else
 some (.next (jf.2,aI (fB+1)))
 else
 some (.done (.inl (cO)))
def q5b(F:Nat)(s_1:List aT)(c_2:Int):Option (Int×Int):=
 (iter (fun s=>WJ F s_1 s.1 s.2) F (c_2,0)).bind fun o=>
 match o with
 | .inl u=>q88 F u
 | .inr u=>some u
def q44(F:Nat)(s_1:List aT)(c_2:Int):Option (Bool×Int):=
 (q5b F s_1 c_2).bind fun x_3=>
 some (decide (x_3.1≥0),x_3.2)
def q6i(_:Nat)(x_1:bJ)(x_2:Int):Option (Int×bJ):=
 some (x_2,{ x_1 with aB:={ x_1.aB with dB:=aI ((gI x_2 255)+1) } })
def q45(F:Nat)(x_1:bJ)(cO:Int)(fB:Int):Option (Out (Int×Int) (Int)):=
 (q44 F x_1.aB.aD fB).bind fun iV=>
 if (!iV.1)=true then
 some (.done (iV.2))
 else
 some (.next (aI (iV.2+1),aI (cO+1)))
def WI(F:Nat)(x_1:bJ)(x_3:Int)(cO:Int):Option (Out (Int×Int) (Int)):=
 if (decide (cO<255))=true then
 if ((decide (x_3<1))||(decide (x_3>255)))=true then
 q45 F x_1 cO 1
 else
 q45 F x_1 cO x_3
 else
 some (.done (x_3))
def q1q(F:Nat)(x_1:bJ):Option (Int×bJ):=
 (iter (fun s=>WI F x_1 s.1 s.2) F (x_1.aB.dB,0)).bind fun o=>
 q6i F x_1 o
def Tc(_:Nat)(Ti:Bool):Option (Bool):=
 if Ti=true then
 some true
 else
 some false
def q2f(F:Nat)(dZ:Int):Option (Bool):=
 if (dZ==1)=true then
 Tc F (dZ==1)
 else
 if (dZ==6)=true then
 Tc F (dZ==6)
 else
 if (dZ==7)=true then
 Tc F (dZ==7)
 else
 if (dZ==18)=true then
 Tc F (dZ==18)
 else
 if (dZ==19)=true then
 Tc F (dZ==19)
 else
 if (dZ==20)=true then
 Tc F (dZ==20)
 else
 if (dZ==21)=true then
 Tc F (dZ==21)
 else
 Tc F (dZ==22)
def WH(_:Nat)(s_1:aT)(Oi:aT):Option (aT):=
 some ({ Oi with Kind:=s_1.Kind,ID:=s_1.ID })
def q89(F:Nat)(s_1:aT):Option (aT):=
 WH F s_1 ({ s_1 with bU:=0,bZ:=0,cu:=0,aA:=0,Result:=0,Update:=(jo.mk 0 0 0 0 0) })
def q6j(F:Nat)(s_1:aT):Option (aT):=
 q89 F s_1
def q6k(F:Nat)(s_1:aT):Option (aT):=
 WH F s_1 ({ s_1 with bU:=0,Source:=0,bR:=0,bZ:=0,cu:=0,aA:=0,Update:=(jo.mk 0 0 0 0 0) })
def q8a(F:Nat)(s_1:aT):Option (aT):=
 WH F s_1 ({ s_1 with bR:=0,Result:=0,Update:=(jo.mk 0 0 0 0 0) })
def q8b(F:Nat)(s_1:aT):Option (aT):=
 WH F s_1 ({ s_1 with bU:=0,bR:=0,Update:=(jo.mk 0 0 0 0 0) })
def q8c(F:Nat)(s_1:aT):Option (aT):=
 WH F s_1 ({ s_1 with bU:=0,bR:=0,bZ:=0,cu:=0,Result:=0,Update:=(jo.mk 0 0 0 0 0) })
def q46(F:Nat)(s_1:aT):Option (aT):=
 if (s_1.Kind==19)=true then
 q6k F s_1
 else
 if (s_1.Kind==1)=true then
 q6k F s_1
 else
 if (s_1.Kind==7)=true then
 q6j F s_1
 else
 if (s_1.Kind==6)=true then
 q6j F s_1
 else
 if (s_1.Kind==18)=true then
 WH F s_1 ({ s_1 with bU:=0,Source:=0,bR:=0,bZ:=0,cu:=0,aA:=0,Result:=0 })
 else
 if (s_1.Kind==20)=true then
 q8a F s_1
 else
 if (s_1.Kind==21)=true then
 q8b F s_1
 else
 if (s_1.Kind==22)=true then
 q8c F s_1
 else
 WH F s_1 ({ s_1 with bU:=0,Source:=0,bR:=0,bZ:=0,cu:=0,aA:=0,Result:=0,Update:=(jo.mk 0 0 0 0 0) })
def YN(_:Nat)(Ti:Bool):Option (Bool):=
 if Ti=true then
 some true
 else
 some false
def q3j(F:Nat)(s_1:aT):Option (Bool):=
 if (s_1.Kind==1)=true then
 some ((s_1.Result==0)||(s_1.Result==2))
 else
 if (s_1.Kind==19)=true then
 some ((s_1.Result==0)||(s_1.Result==1))
 else
 if (s_1.Kind==21)=true then
 if (s_1.Result==0)=true then
 YN F (s_1.Result==0)
 else
 if (s_1.Result==2)=true then
 YN F (s_1.Result==2)
 else
 if (s_1.Result==4)=true then
 YN F (s_1.Result==4)
 else
 if (s_1.Result==5)=true then
 YN F (s_1.Result==5)
 else
 YN F (s_1.Result==9)
 else
 some true
def qp(_:Nat)(BK:Int):Option (Bool):=
 some ((decide (BK≥64))&&(decide (BK≤127)))
def q2h(_:Nat)(Jw:Int):Option (Bool):=
 some ((decide (Jw≥23))&&(decide (Jw≤4096)))
def YM(F:Nat)(s_1:aT)(z_8:Bool):Option (Bool):=
 if z_8=true then
 (qp F s_1.Source).bind fun sK=>
 (if sK=true then
 (q2h F s_1.bZ).bind fun gU=>
 some (gU)
 else
 some (false)).bind fun OT=>
 (if OT=true then
 (q2h F s_1.cu).bind fun pY=>
 some (pY)
 else
 some (false)).bind fun XA=>
 some ((XA&&(decide (s_1.aA≥0)))&&(decide (s_1.aA≤65535)))
 else
 if (s_1.Kind==22)=true then
 (qp F s_1.Source).bind fun iw=>
 some ((iw&&(decide (s_1.aA≥1)))&&(decide (s_1.aA≤65535)))
 else
 some true
def Ur(F:Nat)(s_1:aT)(Ti:Bool):Option (Bool):=
 if Ti=true then
 (qp F s_1.Source).bind fun x_3=>
 (if x_3=true then
 (qp F s_1.bR).bind fun jf=>
 some (jf)
 else
 some (false)).bind fun z_5=>
 some z_5
 else
 if (s_1.Kind==20)=true then
 YM F s_1 (s_1.Kind==20)
 else
 YM F s_1 (s_1.Kind==21)
def Uu(F:Nat)(s_1:aT):Option (Bool):=
 if (s_1.Kind==6)=true then
 Ur F s_1 (s_1.Kind==6)
 else
 Ur F s_1 (s_1.Kind==7)
def q8d(_:Nat):Option (Bool):=
 some true
def WG(_:Nat)(Mc:List vT)(x_2:Int):Option (Out (Int) (Sum (Unit) (Bool))):=
 if (decide (x_2<(len Mc)))=true then
 (idx Mc x_2).bind fun x_3=>
 if ((decide (x_3.n<x_3.low))||(decide (x_3.n>x_3.high)))=true then
 some (.done (.inr false))
 else
 some (.next (aI (x_2+1)))
 else
 some (.done (.inl ()))
def q47(F:Nat)(Mc:List vT):Option (Bool):=
 (iter (fun s=>WG F Mc s) F (0)).bind fun o=>
 match o with
 | .inl _=>q8d F
 | .inr u=>some u
def q2j(F:Nat)(u_1:jo):Option (Int):=
 (q47 F [(vT.mk u_1.bL 1 8),(vT.mk u_1.aX 0 3200),(vT.mk u_1.Interval 6 3200),(vT.mk u_1.aO 0 499),(vT.mk u_1.Timeout 10 3200)]).bind fun x_2=>
 if (!x_2)=true then
 some 5
 else
 if (((decide (u_1.bL≥u_1.Interval))||(decide (u_1.aX>u_1.Interval)))||(decide ((aI (u_1.Timeout*10000))≤(aI ((aI ((aI (2*(aI (u_1.aO+1))))*u_1.Interval))*1250)))))=true then
 some 11
 else
 some 0
def q6l(F:Nat)(s_1:aT)(z_3:Bool):Option (Int):=
 if z_3=true then
 some 1
 else
 (q3j F s_1).bind fun cO=>
 if (!cO)=true then
 some 5
 else
 if ((s_1.Kind==21)&&(s_1.Result != 0))=true then
 if ((((s_1.Source != 0)||(s_1.bZ != 0))||(s_1.cu != 0))||(s_1.aA != 0))=true then
 some 1
 else
 some 0
 else
 if ((s_1.Kind==20)&&(s_1.bU==0))=true then
 some 1
 else
 (Uu F s_1).bind fun fB=>
 if (!fB)=true then
 some 5
 else
 if (s_1.Kind==18)=true then
 (q2j F s_1.Update).bind fun iV=>
 some iV
 else
 some 0
def q2k(F:Nat)(s_1:aT):Option (Int):=
 (q2f F s_1.Kind).bind fun x_2=>
 if (!x_2)=true then
 some 12
 else
 if ((decide (s_1.ID<1))||(decide (s_1.ID>255)))=true then
 some 5
 else
 (q46 F s_1).bind fun sK=>
 q6l F s_1 (!((s_1.Kind==sK.Kind)&&((s_1.ID==sK.ID)&&((s_1.bU==sK.bU)&&((s_1.Source==sK.Source)&&((s_1.bR==sK.bR)&&((s_1.bZ==sK.bZ)&&((s_1.cu==sK.cu)&&((s_1.aA==sK.aA)&&((s_1.Result==sK.Result)&&((s_1.Update.bL==sK.Update.bL)&&((s_1.Update.aX==sK.Update.aX)&&((s_1.Update.Interval==sK.Update.Interval)&&((s_1.Update.aO==sK.Update.aO)&&(s_1.Update.Timeout==sK.Update.Timeout)))))))))))))))
def q5c(_:Nat)(dZ:Int)(z_3:Bool):Option ((List Int)):=
 if z_3=true then
 some [2,2]
 else
 if (dZ==18)=true then
 some [1,2,2,2,2]
 else
 some [2,2,2,2,2]
def q5x(F:Nat)(dZ:Int)(Ti:Bool):Option ((List Int)):=
 if Ti=true then
 some [2]
 else
 if (dZ==6)=true then
 q5c F dZ (dZ==6)
 else
 if (dZ==7)=true then
 q5c F dZ (dZ==7)
 else
 q5c F dZ (dZ==22)
def qr(F:Nat)(dZ:Int):Option ((List Int)):=
 if (dZ==1)=true then
 q5x F dZ (dZ==1)
 else
 q5x F dZ (dZ==19)
def q6m(_:Nat)(s_1:aT)(z_3:Bool):Option ((List Int)):=
 if z_3=true then
 some [aI s_1.Source,aI s_1.bR]
 else
 if (s_1.Kind==18)=true then
 some [s_1.Update.bL,s_1.Update.aX,s_1.Update.Interval,s_1.Update.aO,s_1.Update.Timeout]
 else
 if (s_1.Kind==20)=true then
 some [aI s_1.bU,aI s_1.Source,s_1.bZ,s_1.cu,s_1.aA]
 else
 if (s_1.Kind==21)=true then
 some [aI s_1.Source,s_1.bZ,s_1.cu,s_1.aA,s_1.Result]
 else
 some [aI s_1.Source,s_1.aA]
def q6n(F:Nat)(s_1:aT)(Ti:Bool):Option ((List Int)):=
 if Ti=true then
 some [s_1.Result]
 else
 if (s_1.Kind==6)=true then
 q6m F s_1 (s_1.Kind==6)
 else
 q6m F s_1 (s_1.Kind==7)
def q5d(F:Nat)(s_1:aT):Option ((List Int)):=
 if (s_1.Kind==1)=true then
 q6n F s_1 (s_1.Kind==1)
 else
 q6n F s_1 (s_1.Kind==19)
def q2l(_:Nat)(Jw:Int):Option (Bool):=
 some ((decide (Jw≥1))&&(decide (Jw≤8)))
def q8e(_:Nat)(sS:List Int):Option ((List Int)×Int):=
 some (sS,0)
def q6o(_:Nat)(cO:Int)(Y3:List Int):Option (Out ((List Int)×Int) (Sum ((List Int)) ((List Int)×Int))):=
 some (.next (Y3,aI (cO+1)))
def Uq(_:Nat)(iV:sV)(Ct:List Int)(lg:Int):Option (Out ((List Int)×Int) ((List Int))):=
 if (decide (lg<iV.Size))=true then
 (Iw .u64 iV.Value (aI (8*lg))).bind fun oK=>
 (app 1 Ct [j3 oK]).bind fun l_13=>
 some (.next (l_13,aI (lg+1)))
 else
 some (.done (Ct))
def WE(F:Nat)(vF:List sV)(OM:List Int)(cO:Int):Option (Out ((List Int)×Int) (Sum ((List Int)) ((List Int)×Int))):=
 if (decide (cO<(len vF)))=true then
 (idx vF cO).bind fun iV=>
 (q2l F iV.Size).bind fun jf=>
 (if (!jf)=true then
 some (true)
 else
 if (decide (iV.Size<8))=true then
 (Iw .u64 iV.Value (aI (8*iV.Size))).bind fun qH=>
 some ((qH != 0))
 else
 some (false)).bind fun z_9=>
 if z_9=true then
 some (.done (.inr ([],5)))
 else
 (iter (fun s=>Uq F iV s.1 s.2) F (OM,0)).bind fun o=>
 q6o F cO o
 else
 some (.done (.inl (OM)))
def q2n(F:Nat)(vF:List sV):Option ((List Int)×Int):=
 (iter (fun s=>WE F vF s.1 s.2) F ([],0)).bind fun o=>
 match o with
 | .inl u=>q8e F u
 | .inr u=>some u
def q6p(F:Nat)(s_1:aT)(LA:List sV)(fB:Int):Option ((List Int)×Int):=
 (q2n F LA).bind fun iV=>
 if (iV.2 != 0)=true then
 some ([],iV.2)
 else
 (q9 F [[j3 s_1.Kind,j3 s_1.ID,j3 fB,0],iV.1]).bind fun jf=>
 some (jf,0)
def OL(_:Nat)(x_3:List Int)(F3:List Int)(Y1:List sV)(zy:Int)(lg:Int):Option (Out ((List sV)×Int×Int) ((List sV)×Int)):=
 if (decide (lg<(len F3)))=true then
 (idx F3 lg).bind fun oK=>
 (idx x_3 lg).bind fun O5=>
 (app 16 Y1 [(sV.mk O5 (wu64 oK))]).bind fun Y8=>
 (idx x_3 lg).bind fun pY=>
 some (.next (Y8,aI (zy+pY),aI (lg+1)))
 else
 some (.done (Y1,zy))
def q48(F:Nat)(s_1:aT):Option ((List Int)×Int):=
 (q2k F s_1).bind fun x_2=>
 if (x_2 != 0)=true then
 some ([],x_2)
 else
 (qr F s_1.Kind).bind fun x_3=>
 (q5d F s_1).bind fun F3=>
 (iter (fun s=>OL F x_3 F3 s.1 s.2.1 s.2.2) F ([],0,0)).bind fun o=>
 q6p F s_1 o.1 o.2
def q1d(F:Nat)(x_1:bJ)(mg:Int)(Xk:List Int):Option (bJ):=
 (q9 F [Xk]).bind fun iV=>
 (app 32 x_1.aB.Out [(bM.mk mg iV)]).bind fun vW=>
 some ({ x_1 with aB:={ x_1.aB with Out:=vW } })
def qe(F:Nat)(x_1:bJ)(s_2:aT):Option (bJ):=
 (q48 F s_2).bind fun x_3=>
 if (x_3.2==0)=true then
 (q1d F x_1 5 x_3.1).bind fun cO=>
 some cO
 else
 some x_1
def q1e(F:Nat)(x_1:bJ)(s_2:aT):Option (bJ):=
 (q1q F x_1).bind fun x_3=>
 (qe F x_3.2 ({ s_2 with ID:=x_3.1 })).bind fun cO=>
 (app 96 cO.aB.aD [{ s_2 with ID:=x_3.1 }]).bind fun vW=>
 some ({ cO with aB:={ cO.aB with aD:=vW } })
def q1f(F:Nat)(m_1:aL)(WV:Int)(WY:Int)(WZ:Int)(DT:Int):Option (aL×Int×Int):=
 (qf F m_1).bind fun iV=>
 (q1b F iV).bind fun jf=>
 if (WV==0)=true then
 some (iV.aB,0,1)
 else
 (qy F WY).bind fun F3=>
 (if (!F3)=true then
 some (true)
 else
 (qy F WZ).bind fun j5=>
 some ((!j5))).bind fun OU=>
 (if OU=true then
 some (true)
 else
 (qn F DT 0 65535).bind fun nE=>
 some ((!nE))).bind fun XB=>
 if XB=true then
 some (iV.aB,0,5)
 else
 (if (!jf.2)=true then
 some (true)
 else
 (qz F iV).bind fun gU=>
 some (gU)).bind fun Xz=>
 if Xz=true then
 some (iV.aB,0,8)
 else
 (q1e F iV (aT.mk 20 0 WV jf.1 0 WY WZ DT 0 (jo.mk 0 0 0 0 0))).bind fun pY=>
 some (pY.aB,jf.1,0)
def q5e(_:Nat)(s_1:aT)(mq:aS):Option (Bool×aS):=
 some (((s_1.Kind==6)&&(s_1.Source==mq.Local)),mq)
def q8f(_:Nat)(Rw:aS):Option (Int×aS):=
 some ((-1),Rw)
def WB(F:Nat)(s_1:List aT)(c_34:aS)(nR:Int):Option (Out (aS×Int) (Sum (aS) (Int×aS))):=
 if (decide (nR<(len s_1)))=true then
 (idx s_1 nR).bind fun iH=>
 (q5e F iH c_34).bind fun zo=>
 if zo.1=true then
 some (.done (.inr (nR,zo.2)))
 else
 some (.next (zo.2,aI (nR+1)))
 else
 some (.done (.inl (c_34)))
def q5f(F:Nat)(s_1:List aT)(c_2:aS):Option (Int×aS):=
 (iter (fun s=>WB F s_1 s.1 s.2) F (c_2,0)).bind fun o=>
 match o with
 | .inl u=>q8f F u
 | .inr u=>some u
def q49(F:Nat)(s_1:List aT)(c_2:aS):Option (Bool×aS):=
 (q5f F s_1 c_2).bind fun x_3=>
 some (decide (x_3.1≥0),x_3.2)
def qt(F:Nat)(x_1:bJ)(c_2:aS):Option (Bool):=
 (q49 F x_1.aB.aD c_2).bind fun x_3=>
 some x_3.1
def q6q(F:Nat)(c_1:aS)(sS:List (List Int)):Option (aS):=
 (q9 F [c_1.In]).bind fun x_3=>
 some ({ c_1 with Out:=sS,In:=x_3 })
def Wz(_:Nat)(c_1:aS)(LA:List (List Int))(fB:Int):Option (Out ((List (List Int))×Int) ((List (List Int)))):=
 if (decide (fB<(len c_1.Out)))=true then
 (idx c_1.Out fB).bind fun iV=>
 (mk 1 0 (len iV)).bind fun vW=>
 (app 24 LA [DU vW iV]).bind fun Jy=>
 some (.next (Jy,aI (fB+1)))
 else
 some (.done (LA))
def qu(F:Nat)(c_1:aS):Option (aS):=
 (iter (fun s=>Wz F c_1 s.1 s.2) F ([],0)).bind fun o=>
 q6q F c_1 o
def q4a(F:Nat)(Py:List Int):Option ((List Int)):=
 (q9 F [[j3 (len Py),j3 (zP (len Py) 8)],Py]).bind fun x_2=>
 some x_2
def q4b(F:Nat)(p_1:aS)(mq:List (List Int)):Option (aS×(List (List Int))):=
 (idx p_1.Out 0).bind fun x_3=>
 (q4a F x_3).bind fun cO=>
 (mk 1 0 (bY (imax 1 (bY p_1.dn (aI ((len cO)-(imax 0 (bY p_1.aR (len cO))))))) (aI ((len cO)-(imax 0 (bY p_1.aR (len cO))))))).bind fun Y3=>
 (sub cO (imax 0 (bY p_1.aR (len cO))) (len cO)).bind fun NN=>
 (app 24 mq [DU Y3 NN]).bind fun vW=>
 if (decide ((aI ((imax 0 (bY p_1.aR (len cO)))+(imax 1 (bY p_1.dn (aI ((len cO)-(imax 0 (bY p_1.aR (len cO)))))))))≥(len cO)))=true then
 (sub p_1.Out 1 (len p_1.Out)).bind fun Jy=>
 some ({ p_1 with aN:=aI (p_1.aN-1),Out:=Jy,aR:=0 },vW)
 else
 some ({ p_1 with aN:=aI (p_1.aN-1),aR:=aI ((imax 0 (bY p_1.aR (len cO)))+(imax 1 (bY p_1.dn (aI ((len cO)-(imax 0 (bY p_1.aR (len cO)))))))) },vW)
def q6r(_:Nat)(Rw:aS)(yF:List (List Int)):Option (aS×(List (List Int))):=
 some (Rw,yF)
def q6s(F:Nat)(Rw:aS)(yF:List (List Int)):Option (aS×(List (List Int))):=
 q6r F Rw yF
def Ta(F:Nat)(Vz:aS)(l_38:List (List Int)):Option (Out (aS×(List (List Int))) (aS×(List (List Int)))):=
 if ((decide ((len Vz.Out)>0))&&(decide (Vz.aN>0)))=true then
 (q4b F Vz l_38).bind fun F8=>
 some (.next (F8.1,F8.2))
 else
 some (.done (Vz,l_38))
def q4c(F:Nat)(c_1:aS):Option (aS×(List (List Int))):=
 (qu F c_1).bind fun x_2=>
 if x_2.Failed=true then
 some (x_2,[])
 else
 (iter (fun s=>Ta F s.1 s.2) F (x_2,[])).bind fun o=>
 q6s F o.1 o.2
def q6t(_:Nat)(Oi:bJ):Option (bJ):=
 some Oi
def q6u(_:Nat)(su:Int)(c_45:bJ):Option (Out (bJ×Int) (bJ)):=
 some (.next (c_45,aI (su+1)))
def q5y(_:Nat)(EB:Int)(BL:bJ):Option (Out (bJ×Int) (bJ)):=
 some (.next (BL,aI (EB+1)))
def Uo(F:Nat)(Cr:(List (List (List Int))))(su:Int)(yK:bJ)(EB:Int):Option (Out (bJ×Int) (bJ)):=
 if (decide (EB<(len Cr)))=true then
 (idx Cr EB).bind fun qF=>
 if (decide (su<(len qF)))=true then
 (idx qF su).bind fun XE=>
 (idx yK.aB.aj EB).bind fun x_77=>
 (q1d F yK x_77.Remote XE).bind fun x_78=>
 q5y F EB x_78
 else
 q5y F EB yK
 else
 some (.done (yK))
def Un(F:Nat)(Cr:(List (List (List Int))))(iw:Int)(c_31:bJ)(su:Int):Option (Out (bJ×Int) (bJ)):=
 if (decide (su<iw))=true then
 (iter (fun s=>Uo F Cr su s.1 s.2) F (c_31,0)).bind fun o=>
 q6u F su o
 else
 some (.done (c_31))
def q6v(F:Nat)(x_1:bJ)(l_16:List aS)(Cr:(List (List (List Int))))(iw:Int):Option (bJ):=
 (iter (fun s=>Un F Cr iw s.1 s.2) F ({ x_1 with aB:={ x_1.aB with aj:=l_16 } },0)).bind fun o=>
 q6t F o
def q5z(_:Nat)(vZ:Int)(l_83:List aS)(l_84:(List (List (List Int))))(x_85:Int):Option (Out ((List aS)×(List (List (List Int)))×Int×Int) ((List aS)×(List (List (List Int)))×Int)):=
 some (.next (l_83,l_84,x_85,aI (vZ+1)))
def q6w(F:Nat)(OX:Int)(vZ:Int)(l_88:List aS)(l_89:(List (List (List Int)))):Option (Out ((List aS)×(List (List (List Int)))×Int×Int) ((List aS)×(List (List (List Int)))×Int)):=
 (idx l_89 vZ).bind fun XC=>
 q5z F vZ l_88 l_89 (imax OX (len XC))
def Um(F:Nat)(x_1:bJ)(Fv:List aS)(NM:(List (List (List Int))))(OX:Int)(vZ:Int):Option (Out ((List aS)×(List (List (List Int)))×Int×Int) ((List aS)×(List (List (List Int)))×Int)):=
 if (decide (vZ<(len x_1.aB.aj)))=true then
 (idx Fv vZ).bind fun x_86=>
 (qt F ({ x_1 with aB:={ x_1.aB with aj:=Fv } }) x_86).bind fun OW=>
 if OW=true then
 q5z F vZ Fv NM OX
 else
 (q4c F x_86).bind fun x_93=>
 (idx Fv vZ).bind fun _=>
 (upd Fv vZ x_93.1).bind fun l_95=>
 (idx NM vZ).bind fun _=>
 (upd NM vZ x_93.2).bind fun l_97=>
 q6w F OX vZ l_95 l_97
 else
 some (.done (Fv,NM,OX))
def q4d(F:Nat)(x_1:bJ):Option (bJ):=
 (mk 24 ([]:List (List Int)) (len x_1.aB.aj)).bind fun Qr=>
 (iter (fun s=>Um F x_1 s.1 s.2.1 s.2.2.1 s.2.2.2) F (x_1.aB.aj,Qr,0,0)).bind fun o=>
 q6v F x_1 o.1 o.2.1 o.2.2
def q4e(F:Nat)(f_1:bM):Option ((List Int)×Int):=
 if (f_1.aU==0)=true then
 some ([],1)
 else
 if (decide ((len f_1.Payload)>65531))=true then
 some ([],4)
 else
 (q2n F [(sV.mk 2 (wu64 (len f_1.Payload))),(sV.mk 2 (wu64 f_1.aU))]).bind fun x_2=>
 if (x_2.2 != 0)=true then
 some ([],x_2.2)
 else
 (q9 F [x_2.1,f_1.Payload]).bind fun x_3=>
 some (x_3,0)
def q6x(_:Nat)(jk:bJ)(nE:List Int)(jG:Int)(VA:bJ):Option (aL×eT×Bool):=
 some ({ jk.aB with Out:=VA.aB.Out,aR:=VA.aB.aR },(eT.mk jG nE),true)
def q60(F:Nat)(jk:bJ)(nE:List Int)(jG:Int)(VA:bJ):Option (aL×eT×Bool):=
 q6x F jk nE jG VA
def q5g(F:Nat)(jk:bJ)(gU:List Int×Int)(nE:List Int)(jG:Int):Option (aL×eT×Bool):=
 if (decide ((aI ((imax 0 (bY jk.aB.aR (len gU.1)))+(bY (aI ((len gU.1)-(imax 0 (bY jk.aB.aR (len gU.1))))) (imax 27 (bY jk.aB.Length 251)))))≥(len gU.1)))=true then
 (sub jk.aB.Out 1 (len jk.aB.Out)).bind fun l_26=>
 q60 F jk nE jG ({ jk with aB:={ jk.aB with Out:=l_26,aR:=0 } })
 else
 q60 F jk nE jG ({ jk with aB:={ jk.aB with aR:=aI ((imax 0 (bY jk.aB.aR (len gU.1)))+(bY (aI ((len gU.1)-(imax 0 (bY jk.aB.aR (len gU.1))))) (imax 27 (bY jk.aB.Length 251)))) } })
def q5h(F:Nat)(jk:bJ):Option (aL×eT×Bool):=
 if ((len jk.aB.Out)==0)=true then
 some (jk.aB,(eT.mk 0 []),false)
 else
 (idx jk.aB.Out 0).bind fun qH=>
 (q4e F qH).bind fun gU=>
 (sub gU.1 (imax 0 (bY jk.aB.aR (len gU.1))) (aI ((imax 0 (bY jk.aB.aR (len gU.1)))+(bY (aI ((len gU.1)-(imax 0 (bY jk.aB.aR (len gU.1))))) (imax 27 (bY jk.aB.Length 251)))))).bind fun Y6=>
 (q9 F [Y6]).bind fun nE=>
 if (jk.aB.aR==0)=true then
 q5g F jk gU nE 2
 else
 q5g F jk gU nE 1
def YS(F:Nat)(m_1:aL):Option (aL×eT×Bool):=
 (qf F m_1).bind fun x_2=>
 if ((len x_2.aB.Out)==0)=true then
 (q4d F x_2).bind fun ED=>
 q5h F ED
 else
 q5h F x_2
def q6y(_:Nat)(a_1:jU)(sS:List Int):Option (jU):=
 some ({ a_1 with Buffer:=sS })
def q2q(F:Nat)(a_1:jU):Option (jU):=
 (q9 F [a_1.Buffer]).bind fun fB=>
 q6y F a_1 fB
def q8g(_:Nat)(x_2:Int)(x_3:Int):Option (Int×Int):=
 some (x_2,x_3)
def q4f(F:Nat)(b_1:List Int):Option (Int×Int):=
 (idx b_1 0).bind fun cO=>
 (idx b_1 1).bind fun fB=>
 (idx b_1 2).bind fun iV=>
 (idx b_1 3).bind fun jf=>
 q8g F (uo .i64 (aI cO) (lC .i64 (aI fB) 8)) (uo .u16 (jV iV) (lC .u16 (jV jf) 8))
def q6z(_:Nat)(fB:Int):Option (jU×List bM×Int):=
 some ((jU.mk false []),[],fB)
def q5i(F:Nat)(e_2:Int)(cO:Int):Option (jU×List bM×Int):=
 if (e_2==0)=true then
 q6z F cO
 else
 q6z F e_2
def q4g(F:Nat)(b_1:List Int)(e_2:Int):Option (jU×List bM×Int):=
 if (decide ((len b_1)<4))=true then
 some ((jU.mk true b_1),[],e_2)
 else
 (q4f F b_1).bind fun x_3=>
 if (x_3.2==0)=true then
 q5i F e_2 1
 else
 if ((decide (x_3.1>65531))||(decide ((aI ((len b_1)-4))>x_3.1)))=true then
 q5i F e_2 4
 else
 if (decide ((aI ((len b_1)-4))<x_3.1))=true then
 some ((jU.mk true b_1),[],e_2)
 else
 (sub b_1 4 (len b_1)).bind fun NN=>
 (q9 F [NN]).bind fun jf=>
 some ((jU.mk false []),[(bM.mk x_3.2 jf)],e_2)
def q5j(F:Nat)(fB:Int)(NN:List Int):Option (jU×List bM×Int):=
 (q4g F NN fB).bind fun jf=>
 some (jf.1,jf.2.1,jf.2.2)
def q5k(F:Nat)(mq:eT)(F3:Int):Option (jU×List bM×Int):=
 (q9 F [mq.Payload]).bind fun sK=>
 q5j F F3 sK
def q3l(F:Nat)(a_1:jU)(mq:eT):Option (jU×List bM×Int):=
 if ((mq.dH==1)&&((len mq.Payload)==0))=true then
 (q2q F a_1).bind fun x_3=>
 some (x_3,[],0)
 else
 if (((mq.dH != 1)&&(mq.dH != 2))||((len mq.Payload)==0))=true then
 (q2q F a_1).bind fun cO=>
 some (cO,[],12)
 else
 if (mq.dH==2)=true then
 if (!((!a_1.On)&&((len a_1.Buffer)==0)))=true then
 q5k F mq 13
 else
 q5k F mq 0
 else
 if ((!a_1.On)&&((len a_1.Buffer)==0))=true then
 some ((jU.mk false []),[],13)
 else
 (q9 F [a_1.Buffer,mq.Payload]).bind fun zy=>
 q5j F 0 zy
def q5l(_:Nat)(c_1:aS)(mq:Int):Option (Bool×Int):=
 some ((c_1.Local==mq),mq)
def q8h(_:Nat)(x_3:Int):Option (Int×Int):=
 some ((-1),x_3)
def Wy(F:Nat)(s_1:List aS)(cO:Int)(fB:Int):Option (Out (Int×Int) (Sum (Int) (Int×Int))):=
 if (decide (fB<(len s_1)))=true then
 (idx s_1 fB).bind fun iV=>
 (q5l F iV cO).bind fun jf=>
 if jf.1=true then
 some (.done (.inr (fB,jf.2)))
 else
 some (.next (jf.2,aI (fB+1)))
 else
 some (.done (.inl (cO)))
def q4h(F:Nat)(s_1:List aS)(c_2:Int):Option (Int×Int):=
 (iter (fun s=>Wy F s_1 s.1 s.2) F (c_2,0)).bind fun o=>
 match o with
 | .inl u=>q8h F u
 | .inr u=>some u
def YR(F:Nat)(x_1:bJ)(mg:Int):Option (Int):=
 (q4h F x_1.aB.aj mg).bind fun x_3=>
 some x_3.1
def qc(_:Nat)(x_1:bJ)(e_2:gD):Option (bJ):=
 (app 96 x_1.events [e_2]).bind fun Y3=>
 some ({ x_1 with events:=Y3 })
def q70(F:Nat)(LA:List Int)(Y3:List Int):Option ((List Int)×List Int×Int):=
 (q9 F [LA]).bind fun iV=>
 some (Y3,iV,0)
def q71(_:Nat)(sK:Int)(Ct:List Int)(l_11:List Int):Option (Out ((List Int)×List Int×Int) ((List Int)×List Int)):=
 some (.next (Ct,l_11,aI (sK+1)))
def q72(F:Nat)(vW:List Int)(Jy:List Int)(sK:Int)(oK:Int)(O5:Int):Option (Out ((List Int)×List Int×Int) ((List Int)×List Int)):=
 (app 8 Jy [O5]).bind fun Y8=>
 (sub vW oK (len vW)).bind fun Qr=>
 q71 F sK Qr Y8
def S9(_:Nat)(vW:List Int)(oK:Int)(qH:Int)(gU:Int):Option (Out (Int×Int) (Int)):=
 if (decide (gU<oK))=true then
 (idx vW gU).bind fun iw=>
 (Iy .u64 (wu64 iw) (aI (8*gU))).bind fun nE=>
 some (.next (uo .u64 qH nE,aI (gU+1)))
 else
 some (.done (qH))
def Wx(F:Nat)(kH:List Int)(vW:List Int)(Jy:List Int)(sK:Int):Option (Out ((List Int)×List Int×Int) ((List Int)×List Int)):=
 if (decide (sK<(len kH)))=true then
 (idx kH sK).bind fun oK=>
 (iter (fun s=>S9 F vW oK s.1 s.2) F (0,0)).bind fun o=>
 q72 F vW Jy sK oK o
 else
 some (.done (vW,Jy))
def q61(F:Nat)(b_1:List Int)(kH:List Int)(x_3:Int):Option ((List Int)×List Int×Int):=
 if (decide ((len b_1)<x_3))=true then
 some ([],[],3)
 else
 (iter (fun s=>Wx F kH s.1 s.2.1 s.2.2) F (b_1,[],0)).bind fun o=>
 q70 F o.1 o.2
def Ul(F:Nat)(kH:List Int)(jG:Int)(j5:Int):Option (Out (Int×Int) (Sum (Int) ((List Int)×List Int×Int))):=
 if (decide (j5<(len kH)))=true then
 (idx kH j5).bind fun nD=>
 (q2l F nD).bind fun wo=>
 if (!wo)=true then
 some (.done (.inr ([],[],5)))
 else
 some (.next (aI (jG+nD),aI (j5+1)))
 else
 some (.done (.inl (jG)))
def q2t(F:Nat)(b_1:List Int)(kH:List Int):Option ((List Int)×List Int×Int):=
 (iter (fun s=>Ul F kH s.1 s.2) F (0,0)).bind fun o=>
 match o with
 | .inl u=>q61 F b_1 kH u
 | .inr u=>some u
def qb(_:Nat)(i_1:Int)(mq:List Int):Option (Int×List Int):=
 (idx mq i_1).bind fun x_3=>
 some (aI x_3,mq)
def qw(_:Nat)(i_1:Int)(mq:List Int):Option (Int×List Int):=
 (idx mq i_1).bind fun x_3=>
 some (jV x_3,mq)
def Ww(_:Nat)(s_1:aT)(jk:aT):Option (aT):=
 some ({ jk with Kind:=s_1.Kind,ID:=s_1.ID })
def q73(F:Nat)(s_1:aT)(sS:List Int)(JB:Bool):Option (aT):=
 if JB=true then
 (qw F 0 sS).bind fun nE=>
 (qw F 1 nE.2).bind fun jG=>
 Ww F s_1 ({ s_1 with Source:=nE.1,bR:=jG.1 })
 else
 if (s_1.Kind==18)=true then
 (qb F 0 sS).bind fun j5=>
 (qb F 1 j5.2).bind fun nD=>
 (qb F 2 nD.2).bind fun wo=>
 (qb F 3 wo.2).bind fun Mx=>
 (qb F 4 Mx.2).bind fun XO=>
 Ww F s_1 ({ s_1 with Update:=(jo.mk j5.1 nD.1 wo.1 Mx.1 XO.1) })
 else
 if (s_1.Kind==20)=true then
 (qw F 0 sS).bind fun F9=>
 (qw F 1 F9.2).bind fun ED=>
 (qb F 2 ED.2).bind fun Tn=>
 (qb F 3 Tn.2).bind fun EC=>
 (qb F 4 EC.2).bind fun XM=>
 Ww F s_1 ({ s_1 with bU:=F9.1,Source:=ED.1,bZ:=Tn.1,cu:=EC.1,aA:=XM.1 })
 else
 if (s_1.Kind==21)=true then
 (qw F 0 sS).bind fun x_31=>
 (qb F 1 x_31.2).bind fun su=>
 (qb F 2 su.2).bind fun yw=>
 (qb F 3 yw.2).bind fun pW=>
 (qb F 4 pW.2).bind fun nR=>
 Ww F s_1 ({ s_1 with Source:=x_31.1,bZ:=su.1,cu:=yw.1,aA:=pW.1,Result:=nR.1 })
 else
 if (s_1.Kind==22)=true then
 (qw F 0 sS).bind fun iH=>
 (qb F 1 iH.2).bind fun zo=>
 Ww F s_1 ({ s_1 with Source:=iH.1,aA:=zo.1 })
 else
 Ww F s_1 s_1
def q74(F:Nat)(s_1:aT)(sS:List Int)(Xy:Bool):Option (aT):=
 if Xy=true then
 (qb F 0 sS).bind fun gU=>
 Ww F s_1 ({ s_1 with Result:=gU.1 })
 else
 if (s_1.Kind==6)=true then
 q73 F s_1 sS (s_1.Kind==6)
 else
 q73 F s_1 sS (s_1.Kind==7)
def qg(F:Nat)(s_1:aT)(sS:List Int):Option (aT):=
 if (s_1.Kind==1)=true then
 q74 F s_1 sS (s_1.Kind==1)
 else
 q74 F s_1 sS (s_1.Kind==19)
def q75(F:Nat)(Ru:aT)(Jy:List Int)(Y1:List Int)(zy:Int):Option (aT×Int):=
 if (zy != 0)=true then
 some ((aT.mk 0 0 0 0 0 0 0 0 0 (jo.mk 0 0 0 0 0)),zy)
 else
 if (decide ((len Y1)>0))=true then
 some ((aT.mk 0 0 0 0 0 0 0 0 0 (jo.mk 0 0 0 0 0)),2)
 else
 (qg F ({ Ru with bU:=0,Source:=0,bR:=0,bZ:=0,cu:=0,aA:=0,Result:=0,Update:=(jo.mk 0 0 0 0 0) }) Jy).bind fun lg=>
 (q2k F lg).bind fun oK=>
 if (oK != 0)=true then
 some ((aT.mk 0 0 0 0 0 0 0 0 0 (jo.mk 0 0 0 0 0)),oK)
 else
 some (lg,0)
def q62(F:Nat)(b_1:List Int)(Ru:aT)(fB:Int)(iV:Int):Option (aT×Int):=
 (q2f F Ru.Kind).bind fun jf=>
 if (!jf)=true then
 some ((aT.mk 0 0 0 0 0 0 0 0 0 (jo.mk 0 0 0 0 0)),12)
 else
 if (Ru.ID==0)=true then
 some ((aT.mk 0 0 0 0 0 0 0 0 0 (jo.mk 0 0 0 0 0)),5)
 else
 if (fB != iV)=true then
 some ((aT.mk 0 0 0 0 0 0 0 0 0 (jo.mk 0 0 0 0 0)),2)
 else
 (sub b_1 4 (len b_1)).bind fun Qr=>
 (qr F Ru.Kind).bind fun qH=>
 (q2t F Qr qH).bind fun gU=>
 q75 F Ru gU.1 gU.2.1 gU.2.2
def q5m(_:Nat)(iw:List Int)(nE:Int)(jG:Int):Option (Out (Int×Int) (Int)):=
 if (decide (jG<(len iw)))=true then
 (idx iw jG).bind fun j5=>
 some (.next (aI (nE+j5),aI (jG+1)))
 else
 some (.done (nE))
def q63(F:Nat)(b_1:List Int)(Ru:aT)(fB:Int):Option (aT×Int):=
 (qr F Ru.Kind).bind fun iw=>
 (iter (fun s=>q5m F iw s.1 s.2) F (0,0)).bind fun o=>
 q62 F b_1 Ru fB o
def q64(F:Nat)(b_1:List Int)(Ru:aT):Option (aT×Int):=
 (idx b_1 2).bind fun nD=>
 (idx b_1 3).bind fun wo=>
 q63 F b_1 Ru (uo .i64 (aI nD) (lC .i64 (aI wo) 8))
def q3m(F:Nat)(b_1:List Int):Option (aT×Int):=
 if (decide ((len b_1)<4))=true then
 some ((aT.mk 0 0 0 0 0 0 0 0 0 (jo.mk 0 0 0 0 0)),3)
 else
 (idx b_1 0).bind fun F9=>
 (idx b_1 1).bind fun ED=>
 q64 F b_1 (aT.mk (aI F9) (aI ED) 0 0 0 0 0 0 0 (jo.mk 0 0 0 0 0))
def q3n(_:Nat):Option (Unit):=
 some ()
def q4i(_:Nat)(lK:aT)(jQ:aT):Option (Bool):=
 if (lK.ID != jQ.ID)=true then
 some false
 else
 if (lK.Kind==20)=true then
 some ((jQ.Kind==21)||(jQ.Kind==1))
 else
 if (lK.Kind==6)=true then
 some ((jQ.Kind==1)||(((jQ.Kind==7)&&(jQ.Source==lK.Source))&&(jQ.bR==lK.bR)))
 else
 if (lK.Kind==18)=true then
 some ((jQ.Kind==19)||(jQ.Kind==1))
 else
 some false
def q5n(F:Nat)(r_1:aT)(mq:aT):Option (Bool×aT):=
 (q4i F r_1 mq).bind fun x_3=>
 some (x_3,mq)
def q8i(_:Nat)(xu:aT):Option (Int×aT):=
 some ((-1),xu)
def Wv(F:Nat)(s_1:List aT)(Rv:aT)(yw:Int):Option (Out (aT×Int) (Sum (aT) (Int×aT))):=
 if (decide (yw<(len s_1)))=true then
 (idx s_1 yw).bind fun pW=>
 (q5n F pW Rv).bind fun nR=>
 if nR.1=true then
 some (.done (.inr (yw,nR.2)))
 else
 some (.next (nR.2,aI (yw+1)))
 else
 some (.done (.inl (Rv)))
def q4j(F:Nat)(s_1:List aT)(c_2:aT):Option (Int×aT):=
 (iter (fun s=>Wv F s_1 s.1 s.2) F (c_2,0)).bind fun o=>
 match o with
 | .inl u=>q8i F u
 | .inr u=>some u
def q3o(_:Nat)(s_1:List aT)(vw:Int)(Zm:Int):Option ((List aT)):=
 if 0≤vw∧vw≤Zm∧Zm≤(s_1.length:Int)then
 some (s_1.take vw.toNat++s_1.drop Zm.toNat)
 else
 none
def YQ(F:Nat)(x_1:bJ)(s_2:aT):Option (aT×Bool×bJ):=
 (q4j F x_1.aB.aD s_2).bind fun x_3=>
 if (decide (x_3.1<0))=true then
 some ((aT.mk 0 0 0 0 0 0 0 0 0 (jo.mk 0 0 0 0 0)),false,x_1)
 else
 (idx x_1.aB.aD x_3.1).bind fun cO=>
 (q3o F x_1.aB.aD x_3.1 (aI (x_3.1+1))).bind fun fB=>
 some (cO,true,{ x_1 with aB:={ x_1.aB with aD:=fB } })
def q4k(_:Nat)(s_1:List aS)(vw:Int)(Zm:Int):Option ((List aS)):=
 if 0≤vw∧vw≤Zm∧Zm≤(s_1.length:Int)then
 some (s_1.take vw.toNat++s_1.drop Zm.toNat)
 else
 none
def q2w(F:Nat)(x_1:bJ)(vw:Int):Option (bJ):=
 (idx x_1.aB.aj vw).bind fun x_3=>
 (q4k F x_1.aB.aj vw (aI (vw+1))).bind fun cO=>
 (qc F ({ x_1 with aB:={ x_1.aB with aj:=cO } }) (gD.mk 4 x_3.Local [] 0 (jo.mk 0 0 0 0 0) 0)).bind fun fB=>
 some fB
def q2x(F:Nat)(x_1:bJ)(Pk:Int):Option (bJ):=
 (YR F x_1 Pk).bind fun x_3=>
 if (decide (x_3≥0))=true then
 (q2w F x_1 x_3).bind fun cO=>
 some cO
 else
 some x_1
def q4l(F:Nat)(x_1:bJ)(s_2:aT):Option (bJ):=
 (YQ F x_1 s_2).bind fun x_3=>
 if (!x_3.2.1)=true then
 some x_3.2.2
 else
 if (x_3.1.Kind==20)=true then
 (qc F x_3.2.2 (gD.mk 5 x_3.1.Source [] 1 (jo.mk 0 0 0 0 0) 0)).bind fun cO=>
 some cO
 else
 if (x_3.1.Kind==6)=true then
 (q2x F x_3.2.2 x_3.1.Source).bind fun fB=>
 some fB
 else
 if (x_3.1.Kind==18)=true then
 (qc F x_3.2.2 (gD.mk 7 0 [] 1 (jo.mk 0 0 0 0 0) s_2.ID)).bind fun iV=>
 some iV
 else
 some x_3.2.2
def q65(F:Nat)(x_1:bJ)(s_2:aT)(x_3:Int)(z_4:Bool):Option (bJ):=
 if z_4=true then
 (qe F x_1 ({ s_2 with Kind:=1,bU:=0,Source:=0,bR:=0,bZ:=0,cu:=0,aA:=0,Result:=2,Update:=(jo.mk 0 0 0 0 0) })).bind fun fB=>
 some fB
 else
 (qe F x_1 ({ s_2 with Kind:=7,bU:=0,bZ:=0,cu:=0,aA:=0,Result:=0,Update:=(jo.mk 0 0 0 0 0) })).bind fun iV=>
 (q2w F iV x_3).bind fun jf=>
 some jf
def q4m(F:Nat)(x_1:bJ)(s_2:aT):Option (bJ):=
 (YR F x_1 s_2.bR).bind fun x_3=>
 if (decide (x_3<0))=true then
 q65 F x_1 s_2 x_3 true
 else
 (idx x_1.aB.aj x_3).bind fun lg=>
 q65 F x_1 s_2 x_3 (lg.Remote != s_2.Source)
def q4n(F:Nat)(x_1:bJ)(s_2:aT):Option (bJ):=
 (YQ F x_1 s_2).bind fun x_3=>
 if x_3.2.1=true then
 (q2x F x_3.2.2 s_2.Source).bind fun cO=>
 some cO
 else
 some x_3.2.2
def q4o(F:Nat)(x_1:bJ)(s_2:aT):Option (bJ):=
 if (x_1.aB.iU==0)=true then
 (qc F x_1 (gD.mk 6 0 [] 0 s_2.Update s_2.ID)).bind fun x_3=>
 some x_3
 else
 (qe F x_1 ({ s_2 with Kind:=1,bU:=0,Source:=0,bR:=0,bZ:=0,cu:=0,aA:=0,Result:=0,Update:=(jo.mk 0 0 0 0 0) })).bind fun cO=>
 some cO
def q4p(F:Nat)(x_1:bJ)(s_2:aT):Option (bJ):=
 (YQ F x_1 s_2).bind fun x_3=>
 if x_3.2.1=true then
 (qc F x_3.2.2 (gD.mk 7 0 [] s_2.Result (jo.mk 0 0 0 0 0) s_2.ID)).bind fun cO=>
 some cO
 else
 some x_3.2.2
def q5o(_:Nat)(l_1:eZ)(mq:aT):Option (Bool×aT):=
 some ((l_1.bU==mq.bU),mq)
def q8j(_:Nat)(xu:aT):Option (Int×aT):=
 some ((-1),xu)
def YL(F:Nat)(s_1:List eZ)(Rv:aT)(yw:Int):Option (Out (aT×Int) (Sum (aT) (Int×aT))):=
 if (decide (yw<(len s_1)))=true then
 (idx s_1 yw).bind fun pW=>
 (q5o F pW Rv).bind fun nR=>
 if nR.1=true then
 some (.done (.inr (yw,nR.2)))
 else
 some (.next (nR.2,aI (yw+1)))
 else
 some (.done (.inl (Rv)))
def q4q(F:Nat)(s_1:List eZ)(c_2:aT):Option (Int×aT):=
 (iter (fun s=>YL F s_1 s.1 s.2) F (c_2,0)).bind fun o=>
 match o with
 | .inl u=>q8j F u
 | .inr u=>some u
def q5p(_:Nat)(c_1:aS)(mq:Int):Option (Bool×Int):=
 some ((c_1.Remote==mq),mq)
def q8k(_:Nat)(x_3:Int):Option (Int×Int):=
 some ((-1),x_3)
def Wu(F:Nat)(s_1:List aS)(cO:Int)(fB:Int):Option (Out (Int×Int) (Sum (Int) (Int×Int))):=
 if (decide (fB<(len s_1)))=true then
 (idx s_1 fB).bind fun iV=>
 (q5p F iV cO).bind fun jf=>
 if jf.1=true then
 some (.done (.inr (fB,jf.2)))
 else
 some (.next (jf.2,aI (fB+1)))
 else
 some (.done (.inl (cO)))
def q4r(F:Nat)(s_1:List aS)(c_2:Int):Option (Int×Int):=
 (iter (fun s=>Wu F s_1 s.1 s.2) F (c_2,0)).bind fun o=>
 match o with
 | .inl u=>q8k F u
 | .inr u=>some u
def q1i(F:Nat)(x_1:bJ)(mg:Int):Option (Int):=
 (q4r F x_1.aB.aj mg).bind fun x_3=>
 some x_3.1
def q76(F:Nat)(x_1:bJ)(x_3:Int×aT)(cO:Int×Bool)(z_5:Bool):Option (eZ×Int):=
 if z_5=true then
 some ((eZ.mk 0 0 0 0 0),5)
 else
 if (!cO.2)=true then
 some ((eZ.mk 0 0 0 0 0),4)
 else
 (q1i F x_1 x_3.2.Source).bind fun iV=>
 if (decide (iV≥0))=true then
 some ((eZ.mk 0 0 0 0 0),9)
 else
 (idx x_1.aB.ak x_3.1).bind fun jf=>
 some (jf,0)
def q5q(F:Nat)(x_1:bJ)(s_2:aT):Option (eZ×Int):=
 (q4q F x_1.aB.ak s_2).bind fun x_3=>
 (q1b F x_1).bind fun cO=>
 if (decide (x_3.1<0))=true then
 some ((eZ.mk 0 0 0 0 0),2)
 else
 (idx x_1.aB.ak x_3.1).bind fun F3=>
 q76 F x_1 x_3 cO (decide (x_1.aB.Level<F3.Level))
def q4s(_:Nat)(s_1:List aS)(vw:Int)(v_3:List aS):Option ((List aS)):=
 if 0≤vw∧vw≤(s_1.length:Int)∧v_3.length=1∧(s_1.length+1)*136≤140737488355328 then
 some (s_1.take vw.toNat++v_3++s_1.drop vw.toNat)
 else
 none
def q77(_:Nat)(jk:bJ):Option (bJ):=
 some jk
def q78(F:Nat)(x_1:bJ)(c_2:aS)(Cr:List aS):Option (bJ):=
 (qc F ({ x_1 with aB:={ x_1.aB with aj:=Cr } }) (gD.mk 2 c_2.Local [] 0 (jo.mk 0 0 0 0 0) 0)).bind fun iw=>
 q77 F iw
def q79(F:Nat)(x_1:bJ)(c_2:aS)(qH:Int):Option (bJ):=
 (q4s F x_1.aB.aj qH [{ c_2 with Want:=(-1) }]).bind fun j5=>
 q78 F x_1 c_2 j5
def q4t(_:Nat)(nD:Int)(z_23:Bool):Option (Out (Int) (Int)):=
 if z_23=true then
 some (.next (aI (nD+1)))
 else
 some (.done (nD))
def SY(F:Nat)(x_1:bJ)(c_2:aS)(nD:Int):Option (Out (Int) (Int)):=
 if (decide (nD<(len x_1.aB.aj)))=true then
 (idx x_1.aB.aj nD).bind fun ED=>
 q4t F nD (decide (ED.Local<c_2.Local))
 else
 q4t F nD false
def q2z(F:Nat)(x_1:bJ)(c_2:aS):Option (bJ):=
 (iter (fun s=>SY F x_1 c_2 s) F (0)).bind fun o=>
 q79 F x_1 c_2 o
def q4u(F:Nat)(x_1:bJ)(s_2:aT):Option (bJ):=
 (q5q F x_1 s_2).bind fun x_3=>
 if (x_3.2 != 0)=true then
 (qe F x_1 ({ s_2 with Kind:=21,bU:=0,Source:=0,bR:=0,bZ:=0,cu:=0,aA:=0,Result:=x_3.2,Update:=(jo.mk 0 0 0 0 0) })).bind fun cO=>
 some cO
 else
 (q1b F x_1).bind fun fB=>
 (qe F x_1 (aT.mk 21 s_2.ID 0 fB.1 0 x_3.1.bZ x_3.1.cu x_3.1.aA 0 (jo.mk 0 0 0 0 0))).bind fun iV=>
 (q2z F iV (aS.mk fB.1 s_2.Source s_2.bU x_3.1.bZ x_3.1.cu s_2.bZ s_2.cu s_2.aA x_3.1.aA x_3.1.aA [] 0 [] 0 false)).bind fun jf=>
 some jf
def q4v(F:Nat)(x_1:bJ)(s_2:aT):Option (bJ):=
 (YQ F x_1 s_2).bind fun x_3=>
 if (!x_3.2.1)=true then
 some x_3.2.2
 else
 if (s_2.Result != 0)=true then
 (qc F x_3.2.2 (gD.mk 5 x_3.1.Source [] s_2.Result (jo.mk 0 0 0 0 0) 0)).bind fun cO=>
 some cO
 else
 (q1i F x_3.2.2 s_2.Source).bind fun fB=>
 if (decide (fB≥0))=true then
 (qc F x_3.2.2 (gD.mk 5 x_3.1.Source [] 9 (jo.mk 0 0 0 0 0) 0)).bind fun iV=>
 some iV
 else
 (q2z F x_3.2.2 (aS.mk x_3.1.Source s_2.Source x_3.1.bU x_3.1.bZ x_3.1.cu s_2.bZ s_2.cu s_2.aA x_3.1.aA x_3.1.aA [] 0 [] 0 false)).bind fun jf=>
 some jf
def q30(_:Nat)(Oh:Int)(Jv:Int):Option (Int):=
 if (decide (Jv<1))=true then
 some 5
 else
 if (decide (Jv>(aI (65535-Oh))))=true then
 some 19
 else
 some 0
def q66(_:Nat)(x_3:aS)(cO:Int)(c_7:aS):Option (aS×Int):=
 some ({ x_3 with aN:=c_7.aN,Failed:=c_7.Failed },cO)
def q3q(F:Nat)(c_1:aS)(Jv:Int):Option (aS×Int):=
 (qu F c_1).bind fun x_3=>
 if x_3.Failed=true then
 some (x_3,9)
 else
 (q30 F x_3.aN Jv).bind fun cO=>
 if (cO==0)=true then
 q66 F x_3 cO ({ x_3 with aN:=aI (x_3.aN+Jv) })
 else
 q66 F x_3 cO ({ x_3 with Failed:=true })
def Uv(F:Nat)(x_1:bJ)(vw:Int):Option (bJ):=
 (idx x_1.aB.aj vw).bind fun x_3=>
 (qt F x_1 x_3).bind fun cO=>
 if (!cO)=true then
 (q1e F x_1 (aT.mk 6 0 0 x_3.Local x_3.Remote 0 0 0 0 (jo.mk 0 0 0 0 0))).bind fun fB=>
 some fB
 else
 some x_1
def q7a(F:Nat)(x_1:bJ)(x_3:Int)(nD:Int)(l_23:List aS):Option (bJ):=
 if (nD != 0)=true then
 (Uv F ({ x_1 with aB:={ x_1.aB with aj:=l_23 } }) x_3).bind fun Mx=>
 some Mx
 else
 some ({ x_1 with aB:={ x_1.aB with aj:=l_23 } })
def q7b(F:Nat)(x_1:bJ)(x_3:Int)(c_21:aS)(nD:Int):Option (bJ):=
 (idx x_1.aB.aj x_3).bind fun _=>
 (upd x_1.aB.aj x_3 c_21).bind fun l_28=>
 q7a F x_1 x_3 nD l_28
def q4w(F:Nat)(x_1:bJ)(s_2:aT):Option (bJ):=
 (q1i F x_1 s_2.Source).bind fun x_3=>
 (if (decide (x_3<0))=true then
 some (true)
 else
 (idx x_1.aB.aj x_3).bind fun XV=>
 (qt F x_1 XV).bind fun XU=>
 some (XU)).bind fun z_5=>
 if z_5=true then
 some x_1
 else
 (idx x_1.aB.aj x_3).bind fun _=>
 (idx x_1.aB.aj x_3).bind fun aaZ=>
 (q3q F aaZ s_2.aA).bind fun V4=>
 q7b F x_1 x_3 V4.1 V4.2
def q7c(_:Nat)(Z4:bJ):Option (bJ):=
 some Z4
def YP(F:Nat)(x_1:bJ)(zh:List Int):Option (bJ):=
 (q3m F zh).bind fun x_3=>
 if (x_3.2 != 0)=true then
 (if (decide ((len zh)≥2))=true then
 (idx zh 1).bind fun F9=>
 some ((F9 != 0))
 else
 some (false)).bind fun JB=>
 (if JB=true then
 (idx zh 0).bind fun Mx=>
 some ((Mx != 1))
 else
 some (false)).bind fun z_20=>
 if z_20=true then
 (idx zh 1).bind fun j5=>
 (qe F x_1 (aT.mk 1 (aI j5) 0 0 0 0 0 0 0 (jo.mk 0 0 0 0 0))).bind fun nD=>
 q7c F nD
 else
 q7c F x_1
 else
 if ((x_3.1.Kind==1)||((x_3.1.Kind==6)||((x_3.1.Kind==7)||((x_3.1.Kind==18)||((x_3.1.Kind==19)||((x_3.1.Kind==20)||((x_3.1.Kind==21)||(x_3.1.Kind==22))))))))=true then
 (q3n F).bind fun _=>
 if (x_3.1.Kind==1)=true then
 (q4l F x_1 x_3.1).bind fun pW=>
 some pW
 else
 if (x_3.1.Kind==6)=true then
 (q4m F x_1 x_3.1).bind fun nR=>
 some nR
 else
 if (x_3.1.Kind==7)=true then
 (q4n F x_1 x_3.1).bind fun iH=>
 some iH
 else
 if (x_3.1.Kind==18)=true then
 (q4o F x_1 x_3.1).bind fun zo=>
 some zo
 else
 if (x_3.1.Kind==19)=true then
 (q4p F x_1 x_3.1).bind fun OZ=>
 some OZ
 else
 if (x_3.1.Kind==20)=true then
 (q4u F x_1 x_3.1).bind fun F8=>
 some F8
 else
 if (x_3.1.Kind==21)=true then
 (q4v F x_1 x_3.1).bind fun Tk=>
 some Tk
 else
 if (x_3.1.Kind==22)=true then
 (q4w F x_1 x_3.1).bind fun XL=>
 some XL
 else
 none
 else
 (q3n F).bind fun _=>
 some x_1
def q8l(_:Nat)(c_1:aS)(zh:List Int):Option ((List Int)×Int×Int):=
 some (zh,c_1.Want,0)
def q7d(_:Nat)(c_1:aS)(zh:List Int)(fB:Int):Option ((List Int)×Int×Int):=
 if ((decide (fB>c_1.bZ))||(decide (fB<(aI ((len zh)-2)))))=true then
 some ([],0,4)
 else
 (sub zh 2 (len zh)).bind fun NN=>
 some (NN,fB,0)
def q4x(F:Nat)(c_1:aS)(zh:List Int):Option ((List Int)×Int×Int):=
 if (decide (c_1.aF≤0))=true then
 some ([],0,19)
 else
 if (decide ((len zh)>c_1.cu))=true then
 some ([],0,4)
 else
 if (c_1.Want != (-1))=true then
 if ((len zh)==0)=true then
 some ([],0,3)
 else
 if (decide ((aI ((len c_1.In)+(len zh)))>c_1.Want))=true then
 some ([],0,4)
 else
 q8l F c_1 zh
 else
 if (decide ((len zh)<2))=true then
 some ([],0,3)
 else
 (idx zh 0).bind fun jf=>
 (idx zh 1).bind fun F3=>
 q7d F c_1 zh (uo .i64 (aI jf) (lC .i64 (aI F3) 8))
def q4y(F:Nat)(c_1:aS)(zh:List Int):Option (aS×(List (List Int))×Int):=
 (qu F c_1).bind fun x_3=>
 if x_3.Failed=true then
 some (x_3,[],9)
 else
 (q4x F x_3 zh).bind fun cO=>
 if (cO.2.2 != 0)=true then
 some ({ x_3 with Failed:=true },[],cO.2.2)
 else
 (q9 F [x_3.In,cO.1]).bind fun fB=>
 if (decide ((len fB)<cO.2.1))=true then
 some ({ x_3 with aF:=aI (x_3.aF-1),In:=fB,Want:=cO.2.1 },[],0)
 else
 some ({ x_3 with aF:=aI (x_3.aF-1),In:=[],Want:=(-1) },[fB],0)
def q67(_:Nat)(x_3:aS)(cO:Int)(fB:Int):Option (aS×Int):=
 some ({ x_3 with aF:=fB },cO)
def q4z(F:Nat)(c_1:aS)(Jv:Int):Option (aS×Int):=
 (qu F c_1).bind fun x_3=>
 if x_3.Failed=true then
 some (x_3,9)
 else
 (q30 F x_3.aF Jv).bind fun cO=>
 if (cO==0)=true then
 q67 F x_3 cO (aI (x_3.aF+Jv))
 else
 q67 F x_3 cO x_3.aF
def q7e(_:Nat)(Z4:bJ):Option (bJ):=
 some Z4
def q7f(F:Nat)(iw:aS×(List (List Int))×Int)(iB:bJ)(iH:aS×Int)(l_37:List aS):Option (bJ):=
 (q1q F ({ iB with aB:={ iB.aB with aj:=l_37 } })).bind fun Tk=>
 (qe F Tk.2 (aT.mk 22 Tk.1 0 iH.1.Local 0 0 0 (aI (iw.1.Given-iw.1.aF)) 0 (jo.mk 0 0 0 0 0))).bind fun XL=>
 q7e F XL
def q7g(F:Nat)(vw:Int)(iw:aS×(List (List Int))×Int)(iB:bJ):Option (bJ):=
 (if (decide ((aI (iw.1.Given-iw.1.aF))≤0))=true then
 some (true)
 else
 some (decide (iw.1.aF>(Nn .i64 iw.1.Given 2)))).bind fun zn=>
 if zn=true then
 some iB
 else
 (q4z F iw.1 (aI (iw.1.Given-iw.1.aF))).bind fun iH=>
 if (iH.2==0)=true then
 (idx iB.aB.aj vw).bind fun _=>
 (upd iB.aB.aj vw iH.1).bind fun l_45=>
 q7f F iw iB iH l_45
 else
 q7e F iB
def SX(F:Nat)(iw:aS×(List (List Int))×Int)(Vx:bJ)(XF:Int):Option (Out (bJ×Int) (bJ)):=
 if (decide (XF<(len iw.2.1)))=true then
 (idx iw.2.1 XF).bind fun x_61=>
 (qc F Vx (gD.mk 3 iw.1.Local x_61 0 (jo.mk 0 0 0 0 0) 0)).bind fun x_62=>
 some (.next (x_62,aI (XF+1)))
 else
 some (.done (Vx))
def q7h(F:Nat)(x_1:bJ)(vw:Int)(iw:aS×(List (List Int))×Int)(yF:List aS):Option (bJ):=
 if (iw.2.2 != 0)=true then
 (Uv F ({ x_1 with aB:={ x_1.aB with aj:=yF } }) vw).bind fun jG=>
 some jG
 else
 (iter (fun s=>SX F iw s.1 s.2) F ({ x_1 with aB:={ x_1.aB with aj:=yF } },0)).bind fun o=>
 q7g F vw iw o
def q3r(F:Nat)(x_1:bJ)(vw:Int)(Xk:List Int):Option (bJ):=
 (idx x_1.aB.aj vw).bind fun gU=>
 (q4y F gU Xk).bind fun iw=>
 (idx x_1.aB.aj vw).bind fun _=>
 (upd x_1.aB.aj vw iw.1).bind fun l_66=>
 q7h F x_1 vw iw l_66
def q7i(_:Nat)(vI:bJ):Option (aL×List gD):=
 some (vI.aB,vI.events)
def q7j(F:Nat)(vI:bJ):Option (aL×List gD):=
 q7i F vI
def q50(_:Nat)(iH:Int)(c_49:bJ):Option (Out (bJ×Int) (bJ)):=
 some (.next (c_49,aI (iH+1)))
def Uk(F:Nat)(vW:List bM)(yL:bJ)(iH:Int):Option (Out (bJ×Int) (bJ)):=
 if (decide (iH<(len vW)))=true then
 (idx vW iH).bind fun F7=>
 (YR F yL F7.aU).bind fun XH=>
 if ((F7.aU==4)||(F7.aU==6))=true then
 (qc F yL (gD.mk 1 F7.aU F7.Payload 0 (jo.mk 0 0 0 0 0) 0)).bind fun x_52=>
 q50 F iH x_52
 else
 if (F7.aU==5)=true then
 (YP F yL F7.Payload).bind fun x_53=>
 q50 F iH x_53
 else
 (if (decide (XH≥0))=true then
 (idx yL.aB.aj XH).bind fun x_58=>
 (qt F yL x_58).bind fun EB=>
 some ((!EB))
 else
 some (false)).bind fun z_55=>
 if z_55=true then
 (q3r F yL XH F7.Payload).bind fun OY=>
 q50 F iH OY
 else
 q50 F iH yL
 else
 some (.done (yL))
def q7k(F:Nat)(x_3:bJ)(JA:jU)(vW:List bM):Option (aL×List gD):=
 (iter (fun s=>Uk F vW s.1 s.2) F ({ x_3 with aB:={ x_3.aB with ay:=JA } },0)).bind fun o=>
 q7j F o
def qq(F:Nat)(m_1:aL)(mq:eT):Option (aL×List gD):=
 (qf F m_1).bind fun x_3=>
 (q3l F x_3.aB.ay mq).bind fun V5=>
 q7k F x_3 V5.1 V5.2.1
def q1l(F:Nat)(m_1:aL)(mg:Int)(Xk:List Int):Option (aL×Int):=
 (qf F m_1).bind fun cO=>
 if ((mg != 4)&&(mg != 6))=true then
 some (cO.aB,5)
 else
 if (decide ((len Xk)>4096))=true then
 some (cO.aB,4)
 else
 (qz F cO).bind fun fB=>
 if fB=true then
 some (cO.aB,8)
 else
 (q1d F cO mg Xk).bind fun iV=>
 some (iV.aB,0)
def q31(F:Nat)(x_1:bJ)(mg:Int):Option (Int×Int):=
 (YR F x_1 mg).bind fun x_3=>
 if (decide (x_3<0))=true then
 some (0,6)
 else
 (idx x_1.aB.aj x_3).bind fun cO=>
 (qt F x_1 cO).bind fun fB=>
 if fB=true then
 some (0,9)
 else
 some (x_3,0)
def q7l(_:Nat)(x_3:aS)(LA:List (List Int)):Option (aS×Int):=
 some ({ x_3 with Out:=LA },0)
def q51(F:Nat)(c_1:aS)(Wi:List Int):Option (aS×Int):=
 (qu F c_1).bind fun x_3=>
 if x_3.Failed=true then
 some (x_3,9)
 else
 if (decide ((len Wi)>x_3.jv))=true then
 some (x_3,4)
 else
 if (decide ((len x_3.Out)≥64))=true then
 some (x_3,8)
 else
 (q9 F [Wi]).bind fun jf=>
 (app 24 x_3.Out [jf]).bind fun Jy=>
 q7l F x_3 Jy
def q8m(_:Nat)(cO:bJ)(Jy:List aS):Option (aL×Int):=
 some ({ cO.aB with aj:=Jy },0)
def q1m(F:Nat)(m_1:aL)(mg:Int)(Xk:List Int):Option (aL×Int):=
 (qf F m_1).bind fun cO=>
 (q31 F cO mg).bind fun fB=>
 if (fB.2 != 0)=true then
 some (cO.aB,fB.2)
 else
 (idx cO.aB.aj fB.1).bind fun iV=>
 (q51 F iV Xk).bind fun jf=>
 if (jf.2 != 0)=true then
 some (cO.aB,jf.2)
 else
 (idx cO.aB.aj fB.1).bind fun _=>
 (upd cO.aB.aj fB.1 jf.1).bind fun l_12=>
 q8m F cO l_12
def qk(_:Nat)(a_1:List Int)(zh:List Int):Option (Bool):=
 some ((str a_1)==(str zh))
def q1z(F:Nat):Option (Bool):=
 (YT F 0 []).bind fun x_1=>
 (YT F 1 []).bind fun x_2=>
 (q1f F x_1.1 128 40 30 4).bind fun x_3=>
 (YS F x_3.1).bind fun cO=>
 (qq F x_2.1 cO.2.1).bind fun fB=>
 (YS F fB.1).bind fun iV=>
 (qq F cO.1 iV.2.1).bind fun jf=>
 (q1l F cO.1 5 []).bind fun F3=>
 (q1m F cO.1 64 []).bind fun sK=>
 if ((((((((x_1.2 != 0)||(x_2.2 != 0))||(x_3.2.2 != 0))||(x_3.2.1 != 64))||(!cO.2.2))||((len jf.2) != 1))||(F3.2 != 5))||(sK.2 != 6))=true then
 some false
 else
 (if (cO.2.1.dH==2)=true then
 (qk F cO.2.1.Payload [14,0,5,0,20,1,10,0,128,0,64,0,40,0,30,0,4,0]).bind fun XO=>
 some (XO)
 else
 some (false)).bind fun OT=>
 (if OT=true then
 (idx jf.2 0).bind fun wo=>
 some ((wo.Kind==5))
 else
 some (false)).bind fun XA=>
 (if XA=true then
 (idx jf.2 0).bind fun j5=>
 some ((j5.aU==64))
 else
 some (false)).bind fun z_15=>
 (if z_15=true then
 (idx jf.2 0).bind fun nE=>
 some ((nE.Result==2))
 else
 some (false)).bind fun z_17=>
 some z_17
def qa(_:Nat)(BK:Int):Option (Int):=
 some (aI (gI BK 64))
def q32(F:Nat)(m_1:aL)(mg:Int):Option (aL×Int):=
 (qf F m_1).bind fun x_3=>
 (q31 F x_3 mg).bind fun cO=>
 if (cO.2 != 0)=true then
 some (x_3.aB,cO.2)
 else
 (qz F x_3).bind fun fB=>
 if fB=true then
 some (x_3.aB,8)
 else
 (Uv F x_3 cO.1).bind fun iV=>
 some (iV.aB,0)
def q5r(_:Nat)(s_1:aT):Option (Bool):=
 some (s_1.Kind==18)
def q8n(_:Nat):Option (Int):=
 some (-1)
def Wt(F:Nat)(s_1:List aT)(x_2:Int):Option (Out (Int) (Sum (Unit) (Int))):=
 if (decide (x_2<(len s_1)))=true then
 (idx s_1 x_2).bind fun x_3=>
 (q5r F x_3).bind fun cO=>
 if cO=true then
 some (.done (.inr x_2))
 else
 some (.next (aI (x_2+1)))
 else
 some (.done (.inl ()))
def q5s(F:Nat)(s_1:List aT):Option (Int):=
 (iter (fun s=>Wt F s_1 s) F (0)).bind fun o=>
 match o with
 | .inl _=>q8n F
 | .inr u=>some u
def q52(F:Nat)(s_1:List aT):Option (Bool):=
 (q5s F s_1).bind fun x_2=>
 some (decide (x_2≥0))
def q34(F:Nat)(m_1:aL)(u_2:jo):Option (aL×Int):=
 (qf F m_1).bind fun x_3=>
 if (x_3.aB.iU != 1)=true then
 some (x_3.aB,9)
 else
 (q2j F u_2).bind fun cO=>
 if (cO != 0)=true then
 some (x_3.aB,cO)
 else
 (q52 F x_3.aB.aD).bind fun fB=>
 if fB=true then
 some (x_3.aB,20)
 else
 (qz F x_3).bind fun iV=>
 if iV=true then
 some (x_3.aB,8)
 else
 (q1e F x_3 (aT.mk 18 0 0 0 0 0 0 0 0 u_2)).bind fun jf=>
 some (jf.aB,0)
def q8o(_:Nat)(aV:bD)(xu:bD)(JB:Bool):Option (Bool×bD):=
 some (JB,{ aV with sides:=(xu.sides.1,aV.sides.2),aK:=(xu.aK.1,aV.aK.2),au:=xu.au,connects:=xu.connects })
def q5t(_:Nat)(aV:bD)(iB:bD)(pW:Int)(zn:Bool)(iH:aL×eT×Bool):Option (Out (bD×Int×Bool) (Sum (bD×Bool) (Bool×bD))):=
 if (!iH.2.2)=true then
 some (.done (.inr (zn,{ aV with sides:=(iH.1,aV.sides.2),aK:=(iB.aK.1,aV.aK.2),au:=iB.au,connects:=iB.connects })))
 else
 (app 32 iB.aK.1 [iH.2.1]).bind fun Y4=>
 some (.next ({ aV with sides:=(iH.1,aV.sides.2),aK:=(Y4,aV.aK.2),au:=iB.au,connects:=iB.connects },aI (pW-1),true))
def Ws(F:Nat)(aV:bD)(iB:bD)(pW:Int)(zn:Bool):Option (Out (bD×Int×Bool) (Sum (bD×Bool) (Bool×bD))):=
 if (decide (pW>0))=true then
 (YS F iB.sides.1).bind fun iH=>
 q5t F aV iB pW zn iH
 else
 some (.done (.inl ({ aV with sides:=(iB.sides.1,aV.sides.2),aK:=(iB.aK.1,aV.aK.2),au:=iB.au,connects:=iB.connects },zn)))
def q36(F:Nat)(aV:bD)(Jv:Int):Option (Bool×bD):=
 (iter (fun s=>Ws F aV s.1 s.2.1 s.2.2) F (aV,Jv,false)).bind fun o=>
 match o with
 | .inl u=>q8o F aV u.1 u.2
 | .inr u=>some u
def q1n(F:Nat)(m_1:aL)(id_2:Int)(zZ:Int):Option (aL×Int):=
 (qf F m_1).bind fun cO=>
 if (cO.aB.iU != 0)=true then
 some (cO.aB,9)
 else
 (qn F id_2 1 255).bind fun fB=>
 if ((!fB)||((zZ != 0)&&(zZ != 1)))=true then
 some (cO.aB,5)
 else
 (qz F cO).bind fun iV=>
 if iV=true then
 some (cO.aB,8)
 else
 (qe F cO (aT.mk 19 id_2 0 0 0 0 0 0 zZ (jo.mk 0 0 0 0 0))).bind fun jf=>
 some (jf.aB,0)
def ql(_:Nat)(aV:bD)(vI:bD):Option (bD):=
 some ({ vI with sides:=(aV.sides.1,vI.sides.2),aK:=aV.aK,fixed:=(vI.fixed.1,aV.fixed.2),frame:=aV.frame })
def YK(F:Nat)(aV:bD)(Xw:Bool):Option (bD):=
 if Xw=true then
 some ({ aV with frame:=true })
 else
 (sub aV.fixed.1 1 (len aV.fixed.1)).bind fun Y5=>
 ql F aV ({ aV with fixed:=(Y5,aV.fixed.2) })
def q8p(F:Nat)(aV:bD)(Rt:bD):Option (bD):=
 ql F aV ({ aV with au:=Rt.au,connects:=Rt.connects,data:=true })
def q53(_:Nat)(aV:bD)(gB:bD)(qG:Int)(aai:(Nat→(List (List Int)))):Option (Out (bD×Int) (Sum (bD) (bD))):=
 some (.next ({ aV with au:=aai,connects:=gB.connects },aI (qG+1)))
def q16(F:Nat)(aV:bD)(x_2:gD)(gB:bD)(qG:Int):Option (Out (bD×Int) (Sum (bD) (bD))):=
 if (decide (qG<(len aV.sides.2.aj)))=true then
 (idx aV.sides.2.aj qG).bind fun Ci=>
 (qa F Ci.Remote).bind fun XI=>
 (EJ 64 XI).bind fun iO=>
 if ((Ci.Local==x_2.aU)&&(decide ((len (gB.au iO))>0)))=true then
 (idx (gB.au iO) 0).bind fun XG=>
 (qk F XG x_2.Data).bind fun OY=>
 if OY=true then
 (sub (gB.au iO) 1 (len (gB.au iO))).bind fun Y2=>
 some (.done (.inr ({ aV with au:=(aG (aG gB.au iO []) iO Y2),connects:=gB.connects })))
 else
 q53 F aV gB qG (aG (aG gB.au iO []) iO (gB.au iO))
 else
 q53 F aV gB qG (aG (aG gB.au iO []) iO (gB.au iO))
 else
 some (.done (.inl ({ aV with au:=gB.au,connects:=gB.connects })))
def q7m(F:Nat)(aV:bD)(BL:aL)(qF:Int):Option (bD):=
 if (qF != 0)=true then
 ql F aV ({ aV with sides:=(aV.sides.1,BL),params:=(-1000) })
 else
 ql F aV ({ aV with sides:=(aV.sides.1,BL) })
def q7n(F:Nat)(aV:bD)(BL:aL)(qF:Int):Option (bD):=
 q7m F aV BL qF
def q54(F:Nat)(aV:bD)(x_2:gD):Option (bD):=
 (qa F x_2.aU).bind fun j5=>
 if (x_2.Kind==2)=true then
 (EJ 64 j5).bind fun Qt=>
 ql F aV ({ aV with au:=(aG aV.au (64+Qt) []),connects:=(aG aV.connects (64+Qt) false) })
 else
 if (x_2.Kind==5)=true then
 (if aV.answer=true then
 some (true)
 else
 (EJ 64 j5).bind fun Qs=>
 some ((!(aV.connects (64+Qs))))).bind fun Xx=>
 (EJ 64 j5).bind fun Zn=>
 ql F aV ({ aV with connects:=(aG aV.connects (64+Zn) false),answer:=Xx })
 else
 if (x_2.Kind==1)=true then
 if ((len aV.fixed.1)==0)=true then
 YK F aV true
 else
 (idx aV.fixed.1 0).bind fun nR=>
 if (nR.aU != x_2.aU)=true then
 YK F aV true
 else
 (idx aV.fixed.1 0).bind fun zo=>
 (qk F zo.Payload x_2.Data).bind fun OZ=>
 YK F aV (!OZ)
 else
 if (x_2.Kind==3)=true then
 (iter (fun s=>q16 F aV x_2 s.1 s.2) F (aV,0)).bind fun o=>
 match o with
 | .inl u=>q8p F aV u
 | .inr u=>some u
 else
 if (x_2.Kind==6)=true then
 (q1n F aV.sides.2 x_2.ID (gI x_2.Update.aO 2)).bind fun zx=>
 q7n F aV zx.1 zx.2
 else
 if (x_2.Kind==7)=true then
 ql F aV ({ aV with params:=aI (aV.params-1),answer:=(aV.answer||((aI (aV.params-1))==(-1))) })
 else
 ql F aV aV
def q8q(_:Nat)(yL:bD):Option (bD):=
 some yL
def q7o(_:Nat)(nC:Int)(Rx:bD):Option (Out (bD×Int) (bD)):=
 some (.next (Rx,aI (nC-1)))
def OJ(F:Nat)(kR:List gD)(Jd:bD)(zq:Int):Option (Out (bD×Int) (bD)):=
 if (decide (zq<(len kR)))=true then
 (idx kR zq).bind fun O4=>
 (q54 F Jd O4).bind fun O3=>
 some (.next (O3,aI (zq+1)))
 else
 some (.done (Jd))
def q7p(F:Nat)(gW:bD)(nC:Int)(rD:aL)(kR:List gD)(AJ:List eT):Option (Out (bD×Int) (bD)):=
 (iter (fun s=>OJ F kR s.1 s.2) F ({ gW with sides:=(gW.sides.1,rD),aK:=(AJ,gW.aK.2) },0)).bind fun o=>
 q7o F nC o
def q7q(F:Nat)(gW:bD)(nC:Int)(rD:aL)(kR:List gD)(AJ:List eT):Option (Out (bD×Int) (bD)):=
 q7p F gW nC rD kR AJ
def q7r(F:Nat)(gW:bD)(nC:Int)(rD:aL)(kR:List gD):Option (Out (bD×Int) (bD)):=
 (sub gW.aK.1 1 (len gW.aK.1)).bind fun Qq=>
 q7q F gW nC rD kR Qq
def Wq(F:Nat)(gW:bD)(nC:Int):Option (Out (bD×Int) (bD)):=
 if ((decide (nC>0))&&(decide ((len gW.aK.1)>0)))=true then
 (idx gW.aK.1 0).bind fun _=>
 (idx gW.aK.1 0).bind fun JC=>
 (qq F gW.sides.2 JC).bind fun zw=>
 q7r F gW nC zw.1 zw.2
 else
 some (.done (gW))
def q38(F:Nat)(aV:bD)(Jv:Int):Option (bD):=
 (iter (fun s=>Wq F s.1 s.2) F (aV,Jv)).bind fun o=>
 q8q F o
def q39(F:Nat)(m_1:aL)(UL:Int):Option (aL):=
 (qf F m_1).bind fun x_3=>
 some ({ x_3.aB with Level:=imax 0 (bY UL 2) })
def q8r(_:Nat)(aV:bD)(xu:bD)(JB:Bool):Option (Bool×bD):=
 some (JB,{ aV with sides:=(aV.sides.1,xu.sides.2),aK:=(aV.aK.1,xu.aK.2),au:=xu.au,connects:=xu.connects })
def q5u(_:Nat)(aV:bD)(iB:bD)(pW:Int)(zn:Bool)(iH:aL×eT×Bool):Option (Out (bD×Int×Bool) (Sum (bD×Bool) (Bool×bD))):=
 if (!iH.2.2)=true then
 some (.done (.inr (zn,{ aV with sides:=(aV.sides.1,iH.1),aK:=(aV.aK.1,iB.aK.2),au:=iB.au,connects:=iB.connects })))
 else
 (app 32 iB.aK.2 [iH.2.1]).bind fun Y4=>
 some (.next ({ aV with sides:=(aV.sides.1,iH.1),aK:=(aV.aK.1,Y4),au:=iB.au,connects:=iB.connects },aI (pW-1),true))
def Wp(F:Nat)(aV:bD)(iB:bD)(pW:Int)(zn:Bool):Option (Out (bD×Int×Bool) (Sum (bD×Bool) (Bool×bD))):=
 if (decide (pW>0))=true then
 (YS F iB.sides.2).bind fun iH=>
 q5u F aV iB pW zn iH
 else
 some (.done (.inl ({ aV with sides:=(aV.sides.1,iB.sides.2),aK:=(aV.aK.1,iB.aK.2),au:=iB.au,connects:=iB.connects },zn)))
def q3b(F:Nat)(aV:bD)(Jv:Int):Option (Bool×bD):=
 (iter (fun s=>Wp F aV s.1 s.2.1 s.2.2) F (aV,Jv,false)).bind fun o=>
 match o with
 | .inl u=>q8r F aV u.1 u.2
 | .inr u=>some u
def qm(_:Nat)(aV:bD)(vI:bD):Option (bD):=
 some ({ vI with sides:=(vI.sides.1,aV.sides.2),aK:=aV.aK,fixed:=(aV.fixed.1,vI.fixed.2),frame:=aV.frame })
def YJ(F:Nat)(aV:bD)(Xw:Bool):Option (bD):=
 if Xw=true then
 some ({ aV with frame:=true })
 else
 (sub aV.fixed.2 1 (len aV.fixed.2)).bind fun Y5=>
 qm F aV ({ aV with fixed:=(aV.fixed.1,Y5) })
def q8s(F:Nat)(aV:bD)(Rt:bD):Option (bD):=
 qm F aV ({ aV with au:=Rt.au,connects:=Rt.connects,data:=true })
def q55(_:Nat)(aV:bD)(gB:bD)(qG:Int)(aai:(Nat→(List (List Int)))):Option (Out (bD×Int) (Sum (bD) (bD))):=
 some (.next ({ aV with au:=aai,connects:=gB.connects },aI (qG+1)))
def OI(F:Nat)(aV:bD)(x_2:gD)(gB:bD)(qG:Int):Option (Out (bD×Int) (Sum (bD) (bD))):=
 if (decide (qG<(len aV.sides.1.aj)))=true then
 (idx aV.sides.1.aj qG).bind fun Ci=>
 (qa F Ci.Remote).bind fun XI=>
 (EJ 64 XI).bind fun iO=>
 if ((Ci.Local==x_2.aU)&&(decide ((len (gB.au (64+iO)))>0)))=true then
 (idx (gB.au (64+iO)) 0).bind fun XG=>
 (qk F XG x_2.Data).bind fun OY=>
 if OY=true then
 (sub (gB.au (64+iO)) 1 (len (gB.au (64+iO)))).bind fun Y2=>
 some (.done (.inr ({ aV with au:=(aG (aG gB.au (64+iO) []) (64+iO) Y2),connects:=gB.connects })))
 else
 q55 F aV gB qG (aG (aG gB.au (64+iO) []) (64+iO) (gB.au (64+iO)))
 else
 q55 F aV gB qG (aG (aG gB.au (64+iO) []) (64+iO) (gB.au (64+iO)))
 else
 some (.done (.inl ({ aV with au:=gB.au,connects:=gB.connects })))
def q7s(F:Nat)(aV:bD)(BL:aL)(qF:Int):Option (bD):=
 if (qF != 0)=true then
 qm F aV ({ aV with sides:=(BL,aV.sides.2),params:=(-1000) })
 else
 qm F aV ({ aV with sides:=(BL,aV.sides.2) })
def q7t(F:Nat)(aV:bD)(BL:aL)(qF:Int):Option (bD):=
 q7s F aV BL qF
def q56(F:Nat)(aV:bD)(x_2:gD):Option (bD):=
 (qa F x_2.aU).bind fun j5=>
 if (x_2.Kind==2)=true then
 (EJ 64 j5).bind fun Qt=>
 qm F aV ({ aV with au:=(aG aV.au Qt []),connects:=(aG aV.connects Qt false) })
 else
 if (x_2.Kind==5)=true then
 (if aV.answer=true then
 some (true)
 else
 (EJ 64 j5).bind fun Qs=>
 some ((!(aV.connects Qs)))).bind fun Xx=>
 (EJ 64 j5).bind fun Zn=>
 qm F aV ({ aV with connects:=(aG aV.connects Zn false),answer:=Xx })
 else
 if (x_2.Kind==1)=true then
 if ((len aV.fixed.2)==0)=true then
 YJ F aV true
 else
 (idx aV.fixed.2 0).bind fun nR=>
 if (nR.aU != x_2.aU)=true then
 YJ F aV true
 else
 (idx aV.fixed.2 0).bind fun zo=>
 (qk F zo.Payload x_2.Data).bind fun OZ=>
 YJ F aV (!OZ)
 else
 if (x_2.Kind==3)=true then
 (iter (fun s=>OI F aV x_2 s.1 s.2) F (aV,0)).bind fun o=>
 match o with
 | .inl u=>q8s F aV u
 | .inr u=>some u
 else
 if (x_2.Kind==6)=true then
 (q1n F aV.sides.1 x_2.ID (gI x_2.Update.aO 2)).bind fun zx=>
 q7t F aV zx.1 zx.2
 else
 if (x_2.Kind==7)=true then
 qm F aV ({ aV with params:=aI (aV.params-1),answer:=(aV.answer||((aI (aV.params-1))==(-1))) })
 else
 qm F aV aV
def q8t(_:Nat)(yL:bD):Option (bD):=
 some yL
def q7u(_:Nat)(nC:Int)(Rx:bD):Option (Out (bD×Int) (bD)):=
 some (.next (Rx,aI (nC-1)))
def OH(F:Nat)(kR:List gD)(Jd:bD)(zq:Int):Option (Out (bD×Int) (bD)):=
 if (decide (zq<(len kR)))=true then
 (idx kR zq).bind fun O4=>
 (q56 F Jd O4).bind fun O3=>
 some (.next (O3,aI (zq+1)))
 else
 some (.done (Jd))
def q7v(F:Nat)(gW:bD)(nC:Int)(rD:aL)(kR:List gD)(AJ:List eT):Option (Out (bD×Int) (bD)):=
 (iter (fun s=>OH F kR s.1 s.2) F ({ gW with sides:=(rD,gW.sides.2),aK:=(gW.aK.1,AJ) },0)).bind fun o=>
 q7u F nC o
def q7w(F:Nat)(gW:bD)(nC:Int)(rD:aL)(kR:List gD)(AJ:List eT):Option (Out (bD×Int) (bD)):=
 q7v F gW nC rD kR AJ
def q7x(F:Nat)(gW:bD)(nC:Int)(rD:aL)(kR:List gD):Option (Out (bD×Int) (bD)):=
 (sub gW.aK.2 1 (len gW.aK.2)).bind fun Qq=>
 q7w F gW nC rD kR Qq
def Wo(F:Nat)(gW:bD)(nC:Int):Option (Out (bD×Int) (bD)):=
 if ((decide (nC>0))&&(decide ((len gW.aK.2)>0)))=true then
 (idx gW.aK.2 0).bind fun _=>
 (idx gW.aK.2 0).bind fun JC=>
 (qq F gW.sides.1 JC).bind fun zw=>
 q7x F gW nC zw.1 zw.2
 else
 some (.done (gW))
def q3d(F:Nat)(aV:bD)(Jv:Int):Option (bD):=
 (iter (fun s=>Wo F s.1 s.2) F (aV,Jv)).bind fun o=>
 q8t F o
def qi(_:Nat)(aV:bD)(c_8:bD)(vI:aL):Option (bD):=
 some ({ aV with sides:=(vI,aV.sides.2),au:=c_8.au,fixed:=(c_8.fixed.1,aV.fixed.2),connects:=c_8.connects,params:=c_8.params })
def qj(_:Nat)(aV:bD)(Vy:bD)(c_64:aL):Option (bD):=
 some ({ aV with sides:=(aV.sides.1,c_64),au:=Vy.au,fixed:=(aV.fixed.1,Vy.fixed.2),connects:=Vy.connects,params:=Vy.params })
def YO(F:Nat)(aV:bD)(x_2:D5):Option (bD):=
 if (aI (gI x_2.Side 2)==0)=true then
 if (x_2.Kind==0)=true then
 (q1f F aV.sides.1 x_2.bU x_2.bZ x_2.cu x_2.aA).bind fun wo=>
 if (wo.2.2==0)=true then
 (qa F wo.2.1).bind fun F9=>
 (EJ 64 F9).bind fun Qs=>
 qi F aV ({ aV with connects:=(aG aV.connects Qs true) }) wo.1
 else
 qi F aV aV wo.1
 else
 if (x_2.Kind==1)=true then
 (q32 F aV.sides.1 x_2.aU).bind fun Tn=>
 qi F aV aV Tn.1
 else
 if (x_2.Kind==2)=true then
 (q1m F aV.sides.1 x_2.aU x_2.Bytes).bind fun EC=>
 if (EC.2==0)=true then
 (qa F x_2.aU).bind fun XM=>
 (EJ 64 XM).bind fun Fy=>
 (app 24 (aV.au Fy) [x_2.Bytes]).bind fun l_34=>
 qi F aV ({ aV with au:=(aG (aG aV.au Fy []) Fy l_34) }) EC.1
 else
 qi F aV aV EC.1
 else
 if (x_2.Kind==3)=true then
 (q1l F aV.sides.1 x_2.aU x_2.Bytes).bind fun F8=>
 if (F8.2==0)=true then
 (app 32 aV.fixed.1 [(bM.mk x_2.aU x_2.Bytes)]).bind fun l_42=>
 qi F aV ({ aV with fixed:=(l_42,aV.fixed.2) }) F8.1
 else
 qi F aV aV F8.1
 else
 if (x_2.Kind==4)=true then
 (q34 F aV.sides.1 x_2.Update).bind fun XK=>
 if (XK.2==0)=true then
 qi F aV ({ aV with params:=aI (aV.params+1) }) XK.1
 else
 qi F aV aV XK.1
 else
 if (x_2.Kind==5)=true then
 (q36 F aV (aI x_2.N)).bind fun XJ=>
 some XJ.2
 else
 if (x_2.Kind==6)=true then
 (q38 F aV (aI x_2.N)).bind fun qG=>
 some qG
 else
 if (x_2.Kind==7)=true then
 (q39 F aV.sides.1 (aI x_2.N)).bind fun x_46=>
 qi F aV aV x_46
 else
 qi F aV aV aV.sides.1
 else
 if (aI (gI x_2.Side 2)==1)=true then
 if (x_2.Kind==0)=true then
 (q1f F aV.sides.2 x_2.bU x_2.bZ x_2.cu x_2.aA).bind fun Tj=>
 if (Tj.2.2==0)=true then
 (qa F Tj.2.1).bind fun x_70=>
 (EJ 64 x_70).bind fun j_71=>
 qj F aV ({ aV with connects:=(aG aV.connects (64+j_71) true) }) Tj.1
 else
 qj F aV aV Tj.1
 else
 if (x_2.Kind==1)=true then
 (q32 F aV.sides.2 x_2.aU).bind fun x_72=>
 qj F aV aV x_72.1
 else
 if (x_2.Kind==2)=true then
 (q1m F aV.sides.2 x_2.aU x_2.Bytes).bind fun qF=>
 if (qF.2==0)=true then
 (qa F x_2.aU).bind fun XE=>
 (EJ 64 XE).bind fun Fw=>
 (app 24 (aV.au (64+Fw)) [x_2.Bytes]).bind fun l_78=>
 qj F aV ({ aV with au:=(aG (aG aV.au (64+Fw) []) (64+Fw) l_78) }) qF.1
 else
 qj F aV aV qF.1
 else
 if (x_2.Kind==3)=true then
 (q1l F aV.sides.2 x_2.aU x_2.Bytes).bind fun XD=>
 if (XD.2==0)=true then
 (app 32 aV.fixed.2 [(bM.mk x_2.aU x_2.Bytes)]).bind fun l_86=>
 qj F aV ({ aV with fixed:=(aV.fixed.1,l_86) }) XD.1
 else
 qj F aV aV XD.1
 else
 if (x_2.Kind==4)=true then
 (q34 F aV.sides.2 x_2.Update).bind fun OW=>
 if (OW.2==0)=true then
 qj F aV ({ aV with params:=aI (aV.params+1) }) OW.1
 else
 qj F aV aV OW.1
 else
 if (x_2.Kind==5)=true then
 (q3b F aV (aI x_2.N)).bind fun x_88=>
 some x_88.2
 else
 if (x_2.Kind==6)=true then
 (q3d F aV (aI x_2.N)).bind fun x_89=>
 some x_89
 else
 if (x_2.Kind==7)=true then
 (q39 F aV.sides.2 (aI x_2.N)).bind fun XC=>
 qj F aV aV XC
 else
 qj F aV aV aV.sides.2
 else
 none
def q8u(_:Nat)(c_92:bD):Option (bD×Bool):=
 some (c_92,false)
def q68(_:Nat)(Gp:Int)(xD:Bool×bD)(aaU:Bool):Option (Out (bD×Int) (Sum (bD) (bD×Bool))):=
 if aaU=true then
 some (.done (.inr (xD.2,true)))
 else
 some (.next (xD.2,aI (Gp+1)))
def Uj(F:Nat)(Xi:bD)(Gp:Int):Option (Out (bD×Int) (Sum (bD) (bD×Bool))):=
 if (decide (Gp<20000))=true then
 (q38 F Xi 100).bind fun aa5=>
 (q3d F aa5 100).bind fun aa4=>
 (q36 F aa4 20).bind fun V8=>
 (q3b F V8.2 20).bind fun xD=>
 if ((!V8.1)&&(!xD.1))=true then
 q68 F Gp xD ((aI ((len xD.2.aK.1)+(len xD.2.aK.2)))==0)
 else
 q68 F Gp xD false
 else
 some (.done (.inl (Xi)))
def q7y(F:Nat)(Vx:bD):Option (bD×Bool):=
 (iter (fun s=>Uj F s.1 s.2) F (Vx,0)).bind fun o=>
 match o with
 | .inl u=>q8u F u
 | .inr u=>some u
def q22(F:Nat)(t_1:uq)(Xh:bD)(O1:Int):Option (Out (bD×Int) (bD)):=
 if (decide (O1<(len t_1.eG)))=true then
 (idx t_1.eG O1).bind fun aa3=>
 (YO F Xh aa3).bind fun aa2=>
 some (.next (aa2,aI (O1+1)))
 else
 some (.done (Xh))
def q69(F:Nat)(t_1:uq)(c_26:bD):Option (bD×Bool):=
 (iter (fun s=>q22 F t_1 s.1 s.2) F ({ c_26 with aK:=(([]:List eT),([]:List eT)),fixed:=(([]:List bM),([]:List bM)),params:=0,data:=false,frame:=false,answer:=false },0)).bind fun o=>
 q7y F o
def q7z(_:Nat)(rC:bD)(adu:bD)(aa1:Int):Option (Out (bD×Int) (Sum (bD) (bD×Bool))):=
 some (.next ({ rC with sides:=adu.sides,aK:=(([]:List eT),([]:List eT)),fixed:=(([]:List bM),([]:List bM)),params:=0,data:=false,frame:=false,answer:=false },aI (aa1+1)))
def qh(F:Nat)(t_1:uq)(rC:bD)(O0:Int):Option (Out (bD×Int) (Sum (bD) (bD×Bool))):=
 if (decide (O0<2))=true then
 if (O0==0)=true then
 (YT F 0 t_1.ak.1).bind fun V7=>
 if (V7.2 != 0)=true then
 some (.done (.inr ({ rC with aK:=(([]:List eT),([]:List eT)),fixed:=(([]:List bM),([]:List bM)),params:=0,data:=false,frame:=false,answer:=false },false)))
 else
 q7z F rC ({ rC with sides:=({ V7.1 with Length:=t_1.bH.1 },rC.sides.2),aK:=(([]:List eT),([]:List eT)),fixed:=(([]:List bM),([]:List bM)),params:=0,data:=false,frame:=false,answer:=false }) 0
 else
 if (O0==1)=true then
 (YT F 1 t_1.ak.2).bind fun V6=>
 if (V6.2 != 0)=true then
 some (.done (.inr ({ rC with aK:=(([]:List eT),([]:List eT)),fixed:=(([]:List bM),([]:List bM)),params:=0,data:=false,frame:=false,answer:=false },false)))
 else
 q7z F rC ({ rC with sides:=(rC.sides.1,{ V6.1 with Length:=t_1.bH.2 }),aK:=(([]:List eT),([]:List eT)),fixed:=(([]:List bM),([]:List bM)),params:=0,data:=false,frame:=false,answer:=false }) 1
 else
 none
 else
 some (.done (.inl ({ rC with aK:=(([]:List eT),([]:List eT)),fixed:=(([]:List bM),([]:List bM)),params:=0,data:=false,frame:=false,answer:=false })))
def q3u(F:Nat)(t_1:uq):Option (bD×Bool):=
 (iter (fun s=>qh F t_1 s.1 s.2) F ((bD.mk ((aL.mk 0 0 [] [] [] 0 (jU.mk false []) [] 0 0),(aL.mk 0 0 [] [] [] 0 (jU.mk false []) [] 0 0)) (([]:List eT),([]:List eT)) (fun _=>[]) (([]:List bM),([]:List bM)) (fun _=>false) 0 false false false),0)).bind fun o=>
 match o with
 | .inl u=>q69 F t_1 u
 | .inr u=>some u
def q3v(_:Nat)(Jw:Int):Option (Bool):=
 some ((decide (Jw≥23))&&(decide (Jw≤4096)))
def q5v(_:Nat)(Jw:Int):Option (Bool):=
 some ((decide (Jw≥0))&&(decide (Jw≤65535)))
def q80(_:Nat)(lX:Int)(bW:List eZ):Option (aL×Int):=
 (app 40 ([]:List eZ) bW).bind fun OM=>
 some ((aL.mk lX 0 OM [] [] 1 (jU.mk false []) [] 0 27),0)
def q81(_:Nat)(cO:Int):Option (Out (Int) (Sum (Unit) (aL×Int))):=
 some (.next (aI (cO+1)))
def q82(F:Nat)(cO:Int)(fB:eZ):Option (Out (Int) (Sum (Unit) (aL×Int))):=
 (q3v F fB.bZ).bind fun iV=>
 (if (!iV)=true then
 some (true)
 else
 (q3v F fB.cu).bind fun x_14=>
 some ((!x_14))).bind fun z_8=>
 (if z_8=true then
 some (true)
 else
 (q5v F fB.aA).bind fun oK=>
 some ((!oK))).bind fun OU=>
 if ((OU||(decide (fB.Level<0)))||(decide (fB.Level>2)))=true then
 some (.done (.inr ((aL.mk 0 0 [] [] [] 0 (jU.mk false []) [] 0 0),5)))
 else
 q81 F cO
def q83(_:Nat)(pY:Int)(Xy:Bool):Option (Out (Int) (Sum (Unit) (aL×Int))):=
 if Xy=true then
 some (.done (.inr ((aL.mk 0 0 [] [] [] 0 (jU.mk false []) [] 0 0),7)))
 else
 some (.next (aI (pY+1)))
def Wn(F:Nat)(bW:List eZ)(cO:Int)(fB:eZ)(pY:Int):Option (Out (Int) (Sum (Unit) (aL×Int))):=
 if (decide (pY<cO))=true then
 (idx bW pY).bind fun gU=>
 q83 F pY (gU.bU==fB.bU)
 else
 some (.done (.inl ()))
def Wm(F:Nat)(bW:List eZ)(cO:Int):Option (Out (Int) (Sum (Unit) (aL×Int))):=
 if (decide (cO<(len bW)))=true then
 (idx bW cO).bind fun fB=>
 if (fB.bU==0)=true then
 some (.done (.inr ((aL.mk 0 0 [] [] [] 0 (jU.mk false []) [] 0 0),1)))
 else
 (iter (fun s=>Wn F bW cO fB s) F (0)).bind fun o=>
 match o with
 | .inl _=>q82 F cO fB
 | .inr u=>some (.done (.inr u))
 else
 some (.done (.inl ()))
def q3g(F:Nat)(lX:Int)(bW:List eZ):Option (aL×Int):=
 if ((lX != 0)&&(lX != 1))=true then
 some ((aL.mk 0 0 [] [] [] 0 (jU.mk false []) [] 0 0),1)
 else
 if (decide ((len bW)>64))=true then
 some ((aL.mk 0 0 [] [] [] 0 (jU.mk false []) [] 0 0),4)
 else
 (iter (fun s=>Wm F bW s) F (0)).bind fun o=>
 match o with
 | .inl _=>q80 F lX bW
 | .inr u=>some u
def q57(F:Nat)(t_1:uq):Option (Bool):=
 (q3g F 0 t_1.ak.1).bind fun x_2=>
 (q3g F 1 t_1.ak.2).bind fun x_3=>
 some ((x_2.2 != 0)||(x_3.2 != 0))
def q3w(F:Nat)(t_1:uq):Option (Bool):=
 (q3x F t_1).bind fun x_2=>
 if (!x_2)=true then
 (q1z F).bind fun x_3=>
 some x_3
 else
 (q3u F t_1).bind fun cO=>
 if (!cO.2)=true then
 (q57 F t_1).bind fun fB=>
 (if fB=true then
 (q1z F).bind fun sK=>
 some (sK)
 else
 some (false)).bind fun z_7=>
 some z_7
 else
 (if (((!cO.1.frame)&&((len cO.1.fixed.1)==0))&&((len cO.1.fixed.2)==0))=true then
 (q1z F).bind fun O5=>
 some (O5)
 else
 some (false)).bind fun OT=>
 some OT
end V
end Go.Proofs.YtbgfhaahhdnogaaGreat
