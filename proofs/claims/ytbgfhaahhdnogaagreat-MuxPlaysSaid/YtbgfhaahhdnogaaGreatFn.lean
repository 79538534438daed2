/- Pure twins of the Go functions, wn by program. -/
import Derived.Test.YtbgfhaahhdnogaaGreatPure
namespace Go.Proofs.YtbgfhaahhdnogaaGreat
namespace V
structure dX where
 bg:Int
 bA:Int
 bC:Int
 au:Int
 Level:Int
structure fD where
 aU:Int
 aL:Int
 Interval:Int
 aV:Int
 Timeout:Int
structure jL where
 bF:Int
 Payload:List Int
structure DW where
 Call:Int
 bg:Int
 cO:Int
 bA:Int
 bC:Int
 au:Int
 ID:Int
 Result:Int
 Level:Int
 Bytes:List Int
 Update:fD
 dB:jL
structure DV where
 eT:Int
 ay:List dX
 Steps:List DW
structure aS where
 Local:Int
 Remote:Int
 bg:Int
 bA:Int
 bC:Int
 gQ:Int
 bf:Int
 aG:Int
 aC:Int
 Given:Int
 Out:(List (List Int))
 aN:Int
 In:List Int
 Want:Int
 Failed:Bool
structure aO where
 Kind:Int
 ID:Int
 bg:Int
 Source:Int
 aT:Int
 bA:Int
 bC:Int
 au:Int
 Result:Int
 Update:fD
structure gV where
 On:Bool
 Buffer:List Int
structure eU where
 cO:Int
 Payload:List Int
structure aJ where
 eT:Int
 Level:Int
 ay:List dX
 aj:List aS
 aB:List aO
 bQ:Int
 aA:gV
 Out:List eU
 aN:Int
 Length:Int
structure bM where
 Kind:Int
 cO:Int
 Data:List Int
 Result:Int
 Update:fD
 ID:Int
structure bG where
 aD:aJ
 events:List bM
structure su where
 n:Int
 low:Int
 high:Int
structure oN where
 Size:Int
 Value:Int
structure sj where
 Known:Bool
 bg:Bool
 Source:Bool
 aT:Bool
 kS:Bool
 au:Bool
 Result:Bool
 Update:Bool
def q7g(_:Nat)(o_1:dX)(iX:dX):Option (Bool×dX):=
 some ((o_1.bg == iX.bg),iX)
def qbj(_:Nat)(c_8:dX):Option (Int×dX):=
 some ((-1),c_8)
def Qd(F:Nat)(s_1:List dX)(nP:dX)(gN:Int):Option (Out (dX×Int) (Sum (dX) (Int×dX))):=
 if (decide (gN<(len s_1)))=true then
 (idx s_1 gN).bind fun gL=>
 (q7g F gL nP).bind fun eZ=>
 if eZ.1=true then
 some (.done (.inr (gN,eZ.2)))
 else
 some (.next (eZ.2,aH (gN+1)))
 else
 some (.done (.inl (nP)))
def q52(F:Nat)(s_1:List dX)(c_2:dX):Option (Int×dX):=
 (iter (fun s=>Qd F s_1 s.1 s.2) F (c_2,0)).bind fun o=>
 match o with
 | .inl u=>qbj F u
 | .inr u=>some u
def q53(F:Nat)(s_1:List dX)(c_2:dX):Option (Bool×dX):=
 (q52 F s_1 c_2).bind fun x_3=>
 some (decide (x_3.1≥0),x_3.2)
def qo(_:Nat)(tH:Int)(KR:Int)(FI:Int):Option (Bool):=
 some ((decide (tH≥KR))&&(decide (tH≤FI)))
def qz(F:Nat)(tH:Int):Option (Bool):=
 (qo F tH 23 4096).bind fun x_2=>
 some x_2
def W9(_:Nat)(s_1:List dX):Option ((List dX)):=
 (app 40 ([]:List dX) s_1).bind fun nZ=>
 some nZ
def q94(F:Nat)(j6:Int)(bT:List dX):Option (aJ×Int):=
 (W9 F bT).bind fun x_3=>
 some ((aJ.mk j6 0 x_3 [] [] 1 (gV.mk false []) [] 0 27),0)
def Qc(F:Nat)(bT:List dX)(bn:Int):Option (Out (Int) (Sum (Unit) (aJ×Int))):=
 if (decide (bn<(len bT)))=true then
 (idx bT bn).bind fun bV=>
 (sub bT 0 bn).bind fun l8=>
 (q53 F l8 bV).bind fun fA=>
 if (fA.2.bg == 0)=true then
 some (.done (.inr ((aJ.mk 0 0 [] [] [] 0 (gV.mk false []) [] 0 0),1)))
 else
 if fA.1=true then
 some (.done (.inr ((aJ.mk 0 0 [] [] [] 0 (gV.mk false []) [] 0 0),7)))
 else
 (qz F fA.2.bA).bind fun iN=>
 (if (!iN)=true then
 some (true)
 else
 (qz F fA.2.bC).bind fun gH=>
 some ((!gH))).bind fun vU=>
 (if vU=true then
 some (true)
 else
 (qo F fA.2.au 0 65535).bind fun eG=>
 some ((!eG))).bind fun QK=>
 (if QK=true then
 some (true)
 else
 (qo F fA.2.Level 0 2).bind fun gL=>
 some ((!gL))).bind fun JC=>
 if JC=true then
 some (.done (.inr ((aJ.mk 0 0 [] [] [] 0 (gV.mk false []) [] 0 0),5)))
 else
 some (.next (aH (bn+1)))
 else
 some (.done (.inl ()))
def U4(F:Nat)(j6:Int)(bT:List dX):Option (aJ×Int):=
 if ((j6 != 0)&&(j6 != 1))=true then
 some ((aJ.mk 0 0 [] [] [] 0 (gV.mk false []) [] 0 0),1)
 else
 if (decide ((len bT) > 64))=true then
 some ((aJ.mk 0 0 [] [] [] 0 (gV.mk false []) [] 0 0),4)
 else
 (iter (fun s=>Qc F bT s) F (0)).bind fun o=>
 match o with
 | .inl _=>q94 F j6 bT
 | .inr u=>some u
def q54(_:Nat)(s_1:List aO):Option ((List aO)):=
 (app 96 ([]:List aO) s_1).bind fun nZ=>
 some nZ
def q55(_:Nat)(s_1:List aS):Option ((List aS)):=
 (app 136 ([]:List aS) s_1).bind fun nZ=>
 some nZ
def q56(_:Nat)(s_1:List eU):Option ((List eU)):=
 (app 32 ([]:List eU) s_1).bind fun nZ=>
 some nZ
def q95(_:Nat)(nZ:List Int):Option ((List Int)):=
 some nZ
def qp(_:Nat)(vF:List (List Int))(sD:List Int)(bn:Int):Option (Out ((List Int)×Int) ((List Int))):=
 if (decide (bn<(len vF)))=true then
 (idx vF bn).bind fun bV=>
 (app 1 sD bV).bind fun l8=>
 some (.next (l8,aH (bn+1)))
 else
 some (.done (sD))
def qa(F:Nat)(vF:List (List Int)):Option ((List Int)):=
 (iter (fun s=>qp F vF s.1 s.2) F ([],0)).bind fun o=>
 q95 F o
def q96(_:Nat)(nZ:List (List Int)):Option ((List (List Int))):=
 some nZ
def Qb(F:Nat)(l_1:List (List Int))(sD:List (List Int))(bn:Int):Option (Out ((List (List Int))×Int) ((List (List Int)))):=
 if (decide (bn<(len l_1)))=true then
 (idx l_1 bn).bind fun bV=>
 (qa F [bV]).bind fun dK=>
 (app 24 sD [dK]).bind fun kC=>
 some (.next (kC,aH (bn+1)))
 else
 some (.done (sD))
def q4i(F:Nat)(l_1:List (List Int)):Option ((List (List Int))):=
 (iter (fun s=>Qb F l_1 s.1 s.2) F ([],0)).bind fun o=>
 q96 F o
def q97(F:Nat)(m_1:aJ)(EA:aJ)(kC:List aS)(oK:List eU):Option (bG):=
 (qa F [m_1.aA.Buffer]).bind fun gW=>
 some (bG.mk ({ m_1 with ay:=EA.ay,aj:=kC,aB:=EA.aB,aA:={ m_1.aA with Buffer:=gW },Out:=oK }) [])
def Qa(F:Nat)(EA:aJ)(rO:List eU)(fM:Int):Option (Out ((List eU)×Int) ((List eU))):=
 if (decide (fM<(len EA.Out)))=true then
 (idx rO fM).bind fun gI=>
 (qa F [gI.Payload]).bind fun gN=>
 (idx rO fM).bind fun _=>
 (idx rO fM).bind fun eZ=>
 (upd rO fM ({ eZ with Payload:=gN })).bind fun KV=>
 some (.next (KV,aH (fM+1)))
 else
 some (.done (rO))
def q98(F:Nat)(m_1:aJ)(EA:aJ)(kC:List aS):Option (bG):=
 (iter (fun s=>Qa F EA s.1 s.2) F (EA.Out,0)).bind fun o=>
 q97 F m_1 EA kC o
def P9(F:Nat)(EA:aJ)(rM:List aS)(gH:Int):Option (Out ((List aS)×Int) ((List aS))):=
 if (decide (gH<(len EA.aj)))=true then
 (idx rM gH).bind fun iq=>
 (q4i F iq.Out).bind fun Vv=>
 (qa F [iq.In]).bind fun Vo=>
 (idx rM gH).bind fun _=>
 (idx rM gH).bind fun Rj=>
 (upd rM gH ({ Rj with Out:=Vv })).bind fun Fu=>
 (idx Fu gH).bind fun _=>
 (idx Fu gH).bind fun Rb=>
 (upd Fu gH ({ Rb with In:=Vo })).bind fun SQ=>
 some (.next (SQ,aH (gH+1)))
 else
 some (.done (rM))
def q99(F:Nat)(m_1:aJ)(EA:aJ):Option (bG):=
 (iter (fun s=>P9 F EA s.1 s.2) F (EA.aj,0)).bind fun o=>
 q98 F m_1 EA o
def qh(F:Nat)(m_1:aJ):Option (bG):=
 (W9 F m_1.ay).bind fun QX=>
 (q54 F m_1.aB).bind fun QW=>
 (q55 F m_1.aj).bind fun QV=>
 (q56 F m_1.Out).bind fun QU=>
 q99 F m_1 ({ m_1 with ay:=QX,aj:=QV,aB:=QW,Out:=QU })
def qbk(_:Nat):Option (Int):=
 some (-1)
def P8(_:Nat)(s_1:List Int)(VE:Int)(x_3:Int):Option (Out (Int) (Sum (Unit) (Int))):=
 if (decide (x_3<(len s_1)))=true then
 (idx s_1 x_3).bind fun bn=>
 if (VE == bn)=true then
 some (.done (.inr x_3))
 else
 some (.next (aH (x_3+1)))
 else
 some (.done (.inl ()))
def q7h(F:Nat)(s_1:List Int)(VE:Int):Option (Int):=
 (iter (fun s=>P8 F s_1 VE s) F (0)).bind fun o=>
 match o with
 | .inl _=>qbk F
 | .inr u=>some u
def WZ(F:Nat)(s_1:List Int)(VE:Int):Option (Bool):=
 (q7h F s_1 VE).bind fun x_3=>
 some (decide (x_3≥0))
def WY(F:Nat)(DC:Int)(iX:List Int):Option ((List Int)):=
 (WZ F iX DC).bind fun x_3=>
 if (!x_3)=true then
 (app 2 iX [DC]).bind fun qE=>
 some qE
 else
 some iX
def qbl(_:Nat)(sD:List Int):Option ((List Int)):=
 some sD
def Zm(_:Nat)(bV:Int)(l8:List Int):Option (Out ((List Int)×Int) ((List Int))):=
 some (.next (l8,aH (bV+1)))
def NT(F:Nat)(x_1:bG)(qE:List Int)(bV:Int):Option (Out ((List Int)×Int) ((List Int))):=
 if (decide (bV<(len x_1.aD.aB)))=true then
 (idx x_1.aD.aB bV).bind fun fA=>
 if ((fA.Kind == 20)||(fA.Kind == 6))=true then
 (WY F fA.Source qE).bind fun iN=>
 Zm F bV iN
 else
 Zm F bV qE
 else
 some (.done (qE))
def q9a(F:Nat)(x_1:bG)(nZ:List Int):Option ((List Int)):=
 (iter (fun s=>NT F x_1 s.1 s.2) F (nZ,0)).bind fun o=>
 qbl F o
def NS(F:Nat)(x_1:bG)(Fp:List Int)(iH:Int):Option (Out ((List Int)×Int) ((List Int))):=
 if (decide (iH<(len x_1.aD.aj)))=true then
 (idx x_1.aD.aj iH).bind fun fM=>
 (WY F fM.Local Fp).bind fun gI=>
 some (.next (gI,aH (iH+1)))
 else
 some (.done (Fp))
def q57(F:Nat)(x_1:bG):Option ((List Int)):=
 (iter (fun s=>NS F x_1 s.1 s.2) F ([],0)).bind fun o=>
 q9a F x_1 o
def qbm(_:Nat)(x_3:Int):Option (Int×Bool):=
 some (x_3,true)
def P7(F:Nat)(x_2:List Int)(bn:Int):Option (Out (Int) (Int)):=
 (WZ F x_2 bn).bind fun bV=>
 if bV=true then
 some (.next (fB (bn+1)))
 else
 some (.done (bn))
def U3(F:Nat)(x_1:bG):Option (Int×Bool):=
 (q57 F x_1).bind fun x_2=>
 if (decide ((len x_2)≥16))=true then
 some (0,false)
 else
 (iter (fun s=>P7 F x_2 s) F (64)).bind fun o=>
 qbm F o
def Sr(_:Nat)(x_1:bG):Option (Bool):=
 some (decide ((len x_1.aD.Out)≥64))
def q7i(_:Nat)(s_1:aO)(iX:Int):Option (Bool×Int):=
 some ((s_1.ID == iX),iX)
def qbn(_:Nat)(x_3:Int):Option (Int×Int):=
 some ((-1),x_3)
def q2z(F:Nat)(s_1:List aO)(bn:Int)(bV:Int):Option (Out (Int×Int) (Sum (Int) (Int×Int))):=
 if (decide (bV<(len s_1)))=true then
 (idx s_1 bV).bind fun dK=>
 (q7i F dK bn).bind fun fA=>
 if fA.1=true then
 some (.done (.inr (bV,fA.2)))
 else
 some (.next (fA.2,aH (bV+1)))
 else
 some (.done (.inl (bn)))
def q7j(F:Nat)(s_1:List aO)(c_2:Int):Option (Int×Int):=
 (iter (fun s=>q2z F s_1 s.1 s.2) F (c_2,0)).bind fun o=>
 match o with
 | .inl u=>qbn F u
 | .inr u=>some u
def q58(F:Nat)(s_1:List aO)(c_2:Int):Option (Bool×Int):=
 (q7j F s_1 c_2).bind fun x_3=>
 some (decide (x_3.1≥0),x_3.2)
def q9b(_:Nat)(x_1:bG)(x_2:Int):Option (Int×bG):=
 some (x_2,{ x_1 with aD:={ x_1.aD with bQ:=aH ((uX x_2 255)+1) } })
def UM(F:Nat)(x_1:bG)(bn:Int)(bV:Int):Option (Out (Int×Int) (Int)):=
 (q58 F x_1.aD.aB bV).bind fun dK=>
 if (!dK.1)=true then
 some (.done (dK.2))
 else
 some (.next (aH (dK.2+1),aH (bn+1)))
def P6(F:Nat)(x_1:bG)(x_3:Int)(bn:Int):Option (Out (Int×Int) (Int)):=
 if (decide (bn<255))=true then
 if ((decide (x_3<1))||(decide (x_3 > 255)))=true then
 UM F x_1 bn 1
 else
 UM F x_1 bn x_3
 else
 some (.done (x_3))
def UR(F:Nat)(x_1:bG):Option (Int×bG):=
 (iter (fun s=>P6 F x_1 s.1 s.2) F (x_1.aD.bQ,0)).bind fun o=>
 q9b F x_1 o
def ML(_:Nat)(JB:Bool):Option (Bool):=
 if JB=true then
 some true
 else
 some false
def WX(F:Nat)(bP:Int):Option (Bool):=
 if (bP == 1)=true then
 ML F (bP == 1)
 else
 if (bP == 6)=true then
 ML F (bP == 6)
 else
 if (bP == 7)=true then
 ML F (bP == 7)
 else
 if (bP == 18)=true then
 ML F (bP == 18)
 else
 if (bP == 19)=true then
 ML F (bP == 19)
 else
 if (bP == 20)=true then
 ML F (bP == 20)
 else
 if (bP == 21)=true then
 ML F (bP == 21)
 else
 ML F (bP == 22)
def q32(_:Nat)(s_1:aO)(nP:aO):Option (aO):=
 some ({ nP with Kind:=s_1.Kind,ID:=s_1.ID })
def qbo(F:Nat)(s_1:aO):Option (aO):=
 q32 F s_1 ({ s_1 with bg:=0,bA:=0,bC:=0,au:=0,Result:=0,Update:=(fD.mk 0 0 0 0 0) })
def q9c(F:Nat)(s_1:aO):Option (aO):=
 qbo F s_1
def q9d(F:Nat)(s_1:aO):Option (aO):=
 q32 F s_1 ({ s_1 with bg:=0,Source:=0,aT:=0,bA:=0,bC:=0,au:=0,Update:=(fD.mk 0 0 0 0 0) })
def qbp(F:Nat)(s_1:aO):Option (aO):=
 q32 F s_1 ({ s_1 with aT:=0,Result:=0,Update:=(fD.mk 0 0 0 0 0) })
def qbq(F:Nat)(s_1:aO):Option (aO):=
 q32 F s_1 ({ s_1 with bg:=0,aT:=0,Update:=(fD.mk 0 0 0 0 0) })
def qbr(F:Nat)(s_1:aO):Option (aO):=
 q32 F s_1 ({ s_1 with bg:=0,aT:=0,bA:=0,bC:=0,Result:=0,Update:=(fD.mk 0 0 0 0 0) })
def q5a(F:Nat)(s_1:aO):Option (aO):=
 if (s_1.Kind == 19)=true then
 q9d F s_1
 else
 if (s_1.Kind == 1)=true then
 q9d F s_1
 else
 if (s_1.Kind == 7)=true then
 q9c F s_1
 else
 if (s_1.Kind == 6)=true then
 q9c F s_1
 else
 if (s_1.Kind == 18)=true then
 q32 F s_1 ({ s_1 with bg:=0,Source:=0,aT:=0,bA:=0,bC:=0,au:=0,Result:=0 })
 else
 if (s_1.Kind == 20)=true then
 qbp F s_1
 else
 if (s_1.Kind == 21)=true then
 qbq F s_1
 else
 if (s_1.Kind == 22)=true then
 qbr F s_1
 else
 q32 F s_1 ({ s_1 with bg:=0,Source:=0,aT:=0,bA:=0,bC:=0,au:=0,Result:=0,Update:=(fD.mk 0 0 0 0 0) })
def Sc(_:Nat)(JB:Bool):Option (Bool):=
 if JB=true then
 some true
 else
 some false
def Ws(F:Nat)(s_1:aO):Option (Bool):=
 if (s_1.Kind == 1)=true then
 some ((s_1.Result == 0)||(s_1.Result == 2))
 else
 if (s_1.Kind == 19)=true then
 some ((s_1.Result == 0)||(s_1.Result == 1))
 else
 if (s_1.Kind == 21)=true then
 if (s_1.Result == 0)=true then
 Sc F (s_1.Result == 0)
 else
 if (s_1.Result == 2)=true then
 Sc F (s_1.Result == 2)
 else
 if (s_1.Result == 4)=true then
 Sc F (s_1.Result == 4)
 else
 if (s_1.Result == 5)=true then
 Sc F (s_1.Result == 5)
 else
 Sc F (s_1.Result == 9)
 else
 some true
def qq(_:Nat)(DC:Int):Option (Bool):=
 some ((decide (DC≥64))&&(decide (DC≤127)))
def WW(_:Nat)(tH:Int):Option (Bool):=
 some ((decide (tH≥23))&&(decide (tH≤4096)))
def Sb(F:Nat)(s_1:aO)(yR:Bool):Option (Bool):=
 if yR=true then
 (qq F s_1.Source).bind fun gW=>
 (if gW=true then
 (WW F s_1.bA).bind fun eZ=>
 some (eZ)
 else
 some (false)).bind fun JD=>
 (if JD=true then
 (WW F s_1.bC).bind fun gN=>
 some (gN)
 else
 some (false)).bind fun QJ=>
 some ((QJ&&(decide (s_1.au≥0)))&&(decide (s_1.au≤65535)))
 else
 if (s_1.Kind == 22)=true then
 (qq F s_1.Source).bind fun eG=>
 some ((eG&&(decide (s_1.au≥1)))&&(decide (s_1.au≤65535)))
 else
 some true
def NR(F:Nat)(s_1:aO)(JB:Bool):Option (Bool):=
 if JB=true then
 (qq F s_1.Source).bind fun x_3=>
 (if x_3=true then
 (qq F s_1.aT).bind fun fA=>
 some (fA)
 else
 some (false)).bind fun ED=>
 some ED
 else
 if (s_1.Kind == 20)=true then
 Sb F s_1 (s_1.Kind == 20)
 else
 Sb F s_1 (s_1.Kind == 21)
def NU(F:Nat)(s_1:aO):Option (Bool):=
 if (s_1.Kind == 6)=true then
 NR F s_1 (s_1.Kind == 6)
 else
 NR F s_1 (s_1.Kind == 7)
def qbs(_:Nat):Option (Bool):=
 some true
def P5(_:Nat)(GX:List su)(x_2:Int):Option (Out (Int) (Sum (Unit) (Bool))):=
 if (decide (x_2<(len GX)))=true then
 (idx GX x_2).bind fun x_3=>
 if ((decide (x_3.n<x_3.low))||(decide (x_3.n > x_3.high)))=true then
 some (.done (.inr false))
 else
 some (.next (aH (x_2+1)))
 else
 some (.done (.inl ()))
def q5b(F:Nat)(GX:List su):Option (Bool):=
 (iter (fun s=>P5 F GX s) F (0)).bind fun o=>
 match o with
 | .inl _=>qbs F
 | .inr u=>some u
def WV(F:Nat)(u_1:fD):Option (Int):=
 (q5b F [(su.mk u_1.aU 1 8),(su.mk u_1.aL 0 3200),(su.mk u_1.Interval 6 3200),(su.mk u_1.aV 0 499),(su.mk u_1.Timeout 10 3200)]).bind fun x_2=>
 if (!x_2)=true then
 some 5
 else
 if (((decide (u_1.aU≥u_1.Interval))||(decide (u_1.aL > u_1.Interval)))||(decide ((aH (u_1.Timeout * 10000))≤(aH ((aH ((aH (2 * (aH (u_1.aV+1)))) * u_1.Interval)) * 1250)))))=true then
 some 11
 else
 some 0
def q9e(F:Nat)(s_1:aO)(QB:Bool):Option (Int):=
 if QB=true then
 some 1
 else
 (Ws F s_1).bind fun bn=>
 if (!bn)=true then
 some 5
 else
 if ((s_1.Kind == 21)&&(s_1.Result != 0))=true then
 if ((((s_1.Source != 0)||(s_1.bA != 0))||(s_1.bC != 0))||(s_1.au != 0))=true then
 some 1
 else
 some 0
 else
 if ((s_1.Kind == 20)&&(s_1.bg == 0))=true then
 some 1
 else
 (NU F s_1).bind fun bV=>
 if (!bV)=true then
 some 5
 else
 if (s_1.Kind == 18)=true then
 (WV F s_1.Update).bind fun dK=>
 some dK
 else
 some 0
def WU(F:Nat)(s_1:aO):Option (Int):=
 (WX F s_1.Kind).bind fun x_2=>
 if (!x_2)=true then
 some 12
 else
 if ((decide (s_1.ID<1))||(decide (s_1.ID > 255)))=true then
 some 5
 else
 (q5a F s_1).bind fun gW=>
 q9e F s_1 (!((s_1.Kind == gW.Kind)&&((s_1.ID == gW.ID)&&((s_1.bg == gW.bg)&&((s_1.Source == gW.Source)&&((s_1.aT == gW.aT)&&((s_1.bA == gW.bA)&&((s_1.bC == gW.bC)&&((s_1.au == gW.au)&&((s_1.Result == gW.Result)&&((s_1.Update.aU == gW.Update.aU)&&((s_1.Update.aL == gW.Update.aL)&&((s_1.Update.Interval == gW.Update.Interval)&&((s_1.Update.aV == gW.Update.aV)&&(s_1.Update.Timeout == gW.Update.Timeout)))))))))))))))
def Wl(_:Nat)(bP:Int)(QB:Bool):Option ((List Int)):=
 if QB=true then
 some [2,2]
 else
 if (bP == 18)=true then
 some [1,2,2,2,2]
 else
 some [2,2,2,2,2]
def Zl(F:Nat)(bP:Int)(JB:Bool):Option ((List Int)):=
 if JB=true then
 some [2]
 else
 if (bP == 6)=true then
 Wl F bP (bP == 6)
 else
 if (bP == 7)=true then
 Wl F bP (bP == 7)
 else
 Wl F bP (bP == 22)
def qs(F:Nat)(bP:Int):Option ((List Int)):=
 if (bP == 1)=true then
 Zl F bP (bP == 1)
 else
 Zl F bP (bP == 19)
def q9f(_:Nat)(s_1:aO)(QB:Bool):Option ((List Int)):=
 if QB=true then
 some [aH s_1.Source,aH s_1.aT]
 else
 if (s_1.Kind == 18)=true then
 some [s_1.Update.aU,s_1.Update.aL,s_1.Update.Interval,s_1.Update.aV,s_1.Update.Timeout]
 else
 if (s_1.Kind == 20)=true then
 some [aH s_1.bg,aH s_1.Source,s_1.bA,s_1.bC,s_1.au]
 else
 if (s_1.Kind == 21)=true then
 some [aH s_1.Source,s_1.bA,s_1.bC,s_1.au,s_1.Result]
 else
 some [aH s_1.Source,s_1.au]
def q9g(F:Nat)(s_1:aO)(JB:Bool):Option ((List Int)):=
 if JB=true then
 some [s_1.Result]
 else
 if (s_1.Kind == 6)=true then
 q9f F s_1 (s_1.Kind == 6)
 else
 q9f F s_1 (s_1.Kind == 7)
def q7l(F:Nat)(s_1:aO):Option ((List Int)):=
 if (s_1.Kind == 1)=true then
 q9g F s_1 (s_1.Kind == 1)
 else
 q9g F s_1 (s_1.Kind == 19)
def WT(_:Nat)(tH:Int):Option (Bool):=
 some ((decide (tH≥1))&&(decide (tH≤8)))
def qbt(_:Nat)(nZ:List Int):Option ((List Int)×Int):=
 some (nZ,0)
def q9h(_:Nat)(bn:Int)(xE:List Int):Option (Out ((List Int)×Int) (Sum ((List Int)) ((List Int)×Int))):=
 some (.next (xE,aH (bn+1)))
def NQ(_:Nat)(dK:oN)(rO:List Int)(fM:Int):Option (Out ((List Int)×Int) ((List Int))):=
 if (decide (fM<dK.Size))=true then
 (Df .u64 dK.Value (aH (8 * fM))).bind fun gI=>
 (app 1 rO [gX gI]).bind fun Fq=>
 some (.next (Fq,aH (fM+1)))
 else
 some (.done (rO))
def PZ(F:Nat)(rT:List oN)(sD:List Int)(bn:Int):Option (Out ((List Int)×Int) (Sum ((List Int)) ((List Int)×Int))):=
 if (decide (bn<(len rT)))=true then
 (idx rT bn).bind fun dK=>
 (WT F dK.Size).bind fun fA=>
 (if (!fA)=true then
 some (true)
 else
 if (decide (dK.Size<8))=true then
 (Df .u64 dK.Value (aH (8 * dK.Size))).bind fun gL=>
 some ((gL != 0))
 else
 some (false)).bind fun z_9=>
 if z_9=true then
 some (.done (.inr ([],5)))
 else
 (iter (fun s=>NQ F dK s.1 s.2) F (sD,0)).bind fun o=>
 q9h F bn o
 else
 some (.done (.inl (sD)))
def WR(F:Nat)(rT:List oN):Option ((List Int)×Int):=
 (iter (fun s=>PZ F rT s.1 s.2) F ([],0)).bind fun o=>
 match o with
 | .inl u=>qbt F u
 | .inr u=>some u
def q9i(F:Nat)(s_1:aO)(qE:List oN)(bV:Int):Option ((List Int)×Int):=
 (WR F qE).bind fun dK=>
 if (dK.2 != 0)=true then
 some ([],dK.2)
 else
 (qa F [[gX s_1.Kind,gX s_1.ID,gX bV,0],dK.1]).bind fun fA=>
 some (fA,0)
def Ju(_:Nat)(x_3:List Int)(iN:List Int)(Fp:List oN)(iH:Int)(fM:Int):Option (Out ((List oN)×Int×Int) ((List oN)×Int)):=
 if (decide (fM<(len iN)))=true then
 (idx iN fM).bind fun gI=>
 (idx x_3 fM).bind fun mG=>
 (app 16 Fp [(oN.mk mG (wu64 gI))]).bind fun pE=>
 (idx x_3 fM).bind fun gN=>
 some (.next (pE,aH (iH+gN),aH (fM+1)))
 else
 some (.done (Fp,iH))
def q5c(F:Nat)(s_1:aO):Option ((List Int)×Int):=
 (WU F s_1).bind fun x_2=>
 if (x_2 != 0)=true then
 some ([],x_2)
 else
 (qs F s_1.Kind).bind fun x_3=>
 (q7l F s_1).bind fun iN=>
 (iter (fun s=>Ju F x_3 iN s.1 s.2.1 s.2.2) F ([],0,0)).bind fun o=>
 q9i F s_1 o.1 o.2
def U2(F:Nat)(x_1:bG)(dU:Int)(FX:List Int):Option (bG):=
 (qa F [FX]).bind fun dK=>
 (app 32 x_1.aD.Out [(eU.mk dU dK)]).bind fun kC=>
 some ({ x_1 with aD:={ x_1.aD with Out:=kC } })
def qe(F:Nat)(x_1:bG)(s_2:aO):Option (bG):=
 (q5c F s_2).bind fun x_3=>
 if (x_3.2 == 0)=true then
 (U2 F x_1 5 x_3.1).bind fun bn=>
 some bn
 else
 some x_1
def U1(F:Nat)(x_1:bG)(s_2:aO):Option (bG):=
 (UR F x_1).bind fun x_3=>
 (qe F x_3.2 ({ s_2 with ID:=x_3.1 })).bind fun bn=>
 (app 96 bn.aD.aB [{ s_2 with ID:=x_3.1 }]).bind fun kC=>
 some ({ bn with aD:={ bn.aD with aB:=kC } })
def WQ(F:Nat)(m_1:aJ)(rD:Int)(CU:Int)(CW:Int)(lS:Int):Option (aJ×Int×Int):=
 (qh F m_1).bind fun dK=>
 (U3 F dK).bind fun fA=>
 if (rD == 0)=true then
 some (dK.aD,0,1)
 else
 (qz F CU).bind fun iN=>
 (if (!iN)=true then
 some (true)
 else
 (qz F CW).bind fun iq=>
 some ((!iq))).bind fun vU=>
 (if vU=true then
 some (true)
 else
 (qo F lS 0 65535).bind fun jh=>
 some ((!jh))).bind fun QK=>
 if QK=true then
 some (dK.aD,0,5)
 else
 (if (!fA.2)=true then
 some (true)
 else
 (Sr F dK).bind fun eZ=>
 some (eZ)).bind fun JC=>
 if JC=true then
 some (dK.aD,0,8)
 else
 (U1 F dK (aO.mk 20 0 rD fA.1 0 CU CW lS 0 (fD.mk 0 0 0 0 0))).bind fun gN=>
 some (gN.aD,fA.1,0)
def q7m(_:Nat)(s_1:aO)(iX:aS):Option (Bool×aS):=
 some (((s_1.Kind == 6)&&(s_1.Source == iX.Local)),iX)
def qbu(_:Nat)(LU:aS):Option (Int×aS):=
 some ((-1),LU)
def PY(F:Nat)(s_1:List aO)(Yy:aS)(kT:Int):Option (Out (aS×Int) (Sum (aS) (Int×aS))):=
 if (decide (kT<(len s_1)))=true then
 (idx s_1 kT).bind fun jC=>
 (q7m F jC Yy).bind fun EG=>
 if EG.1=true then
 some (.done (.inr (kT,EG.2)))
 else
 some (.next (EG.2,aH (kT+1)))
 else
 some (.done (.inl (Yy)))
def q7n(F:Nat)(s_1:List aO)(c_2:aS):Option (Int×aS):=
 (iter (fun s=>PY F s_1 s.1 s.2) F (c_2,0)).bind fun o=>
 match o with
 | .inl u=>qbu F u
 | .inr u=>some u
def q5d(F:Nat)(s_1:List aO)(c_2:aS):Option (Bool×aS):=
 (q7n F s_1 c_2).bind fun x_3=>
 some (decide (x_3.1≥0),x_3.2)
def qt(F:Nat)(x_1:bG)(c_2:aS):Option (Bool):=
 (q5d F x_1.aD.aB c_2).bind fun x_3=>
 some x_3.1
def q9j(F:Nat)(c_1:aS)(nZ:List (List Int)):Option (aS):=
 (qa F [c_1.In]).bind fun x_3=>
 some ({ c_1 with Out:=nZ,In:=x_3 })
def PX(_:Nat)(c_1:aS)(qE:List (List Int))(bV:Int):Option (Out ((List (List Int))×Int) ((List (List Int)))):=
 if (decide (bV<(len c_1.Out)))=true then
 (idx c_1.Out bV).bind fun dK=>
 (mk 1 0 (len dK)).bind fun kC=>
 (app 24 qE [zT kC dK]).bind fun oK=>
 some (.next (oK,aH (bV+1)))
 else
 some (.done (qE))
def qu(F:Nat)(c_1:aS):Option (aS):=
 (iter (fun s=>PX F c_1 s.1 s.2) F ([],0)).bind fun o=>
 q9j F c_1 o
def q5e(F:Nat)(y5:List Int):Option ((List Int)):=
 (qa F [[gX (len y5),gX (wF (len y5) 8)],y5]).bind fun x_2=>
 some x_2
def q5f(F:Nat)(p_1:aS)(iX:List (List Int)):Option (aS×(List (List Int))):=
 (idx p_1.Out 0).bind fun x_3=>
 (q5e F x_3).bind fun bn=>
 (mk 1 0 (bD (imax 1 (bD p_1.bf (aH ((len bn) - (imax 0 (bD p_1.aN (len bn))))))) (aH ((len bn) - (imax 0 (bD p_1.aN (len bn))))))).bind fun xE=>
 (sub bn (imax 0 (bD p_1.aN (len bn))) (len bn)).bind fun l8=>
 (app 24 iX [zT xE l8]).bind fun kC=>
 if (decide ((aH ((imax 0 (bD p_1.aN (len bn)))+(imax 1 (bD p_1.bf (aH ((len bn) - (imax 0 (bD p_1.aN (len bn)))))))))≥(len bn)))=true then
 (sub p_1.Out 1 (len p_1.Out)).bind fun oK=>
 some ({ p_1 with aG:=aH (p_1.aG - 1),Out:=oK,aN:=0 },kC)
 else
 some ({ p_1 with aG:=aH (p_1.aG - 1),aN:=aH ((imax 0 (bD p_1.aN (len bn)))+(imax 1 (bD p_1.bf (aH ((len bn) - (imax 0 (bD p_1.aN (len bn)))))))) },kC)
def q9k(_:Nat)(LU:aS)(rM:List (List Int)):Option (aS×(List (List Int))):=
 some (LU,rM)
def q9l(F:Nat)(LU:aS)(rM:List (List Int)):Option (aS×(List (List Int))):=
 q9k F LU rM
def PW(F:Nat)(OZ:aS)(Xd:List (List Int)):Option (Out (aS×(List (List Int))) (aS×(List (List Int)))):=
 if ((decide ((len OZ.Out) > 0))&&(decide (OZ.aG > 0)))=true then
 (q5f F OZ Xd).bind fun MQ=>
 some (.next (MQ.1,MQ.2))
 else
 some (.done (OZ,Xd))
def q5g(F:Nat)(c_1:aS):Option (aS×(List (List Int))):=
 (qu F c_1).bind fun x_2=>
 if x_2.Failed=true then
 some (x_2,[])
 else
 (iter (fun s=>PW F s.1 s.2) F (x_2,[])).bind fun o=>
 q9l F o.1 o.2
def q9m(_:Nat)(nP:bG):Option (bG):=
 some nP
def q9n(_:Nat)(ou:Int)(c_45:bG):Option (Out (bG×Int) (bG)):=
 some (.next (c_45,aH (ou+1)))
def Zk(_:Nat)(Ac:Int)(c_72:bG):Option (Out (bG×Int) (bG)):=
 some (.next (c_72,aH (Ac+1)))
def NP(F:Nat)(jT:(List (List (List Int))))(ou:Int)(pU:bG)(Ac:Int):Option (Out (bG×Int) (bG)):=
 if (decide (Ac<(len jT)))=true then
 (idx jT Ac).bind fun Vt=>
 if (decide (ou<(len Vt)))=true then
 (idx Vt ou).bind fun x_74=>
 (idx pU.aD.aj Ac).bind fun x_77=>
 (U2 F pU x_77.Remote x_74).bind fun QL=>
 Zk F Ac QL
 else
 Zk F Ac pU
 else
 some (.done (pU))
def NN(F:Nat)(jT:(List (List (List Int))))(eG:Int)(Yz:bG)(ou:Int):Option (Out (bG×Int) (bG)):=
 if (decide (ou<eG))=true then
 (iter (fun s=>NP F jT ou s.1 s.2) F (Yz,0)).bind fun o=>
 q9n F ou o
 else
 some (.done (Yz))
def q9o(F:Nat)(x_1:bG)(IK:List aS)(jT:(List (List (List Int))))(eG:Int):Option (bG):=
 (iter (fun s=>NN F jT eG s.1 s.2) F ({ x_1 with aD:={ x_1.aD with aj:=IK } },0)).bind fun o=>
 q9m F o
def Wj(_:Nat)(oP:Int)(l_83:List aS)(l_84:(List (List (List Int))))(x_85:Int):Option (Out ((List aS)×(List (List (List Int)))×Int×Int) ((List aS)×(List (List (List Int)))×Int)):=
 some (.next (l_83,l_84,x_85,aH (oP+1)))
def q9p(F:Nat)(JF:Int)(oP:Int)(l_88:List aS)(Xb:(List (List (List Int)))):Option (Out ((List aS)×(List (List (List Int)))×Int×Int) ((List aS)×(List (List (List Int)))×Int)):=
 (idx Xb oP).bind fun x_90=>
 Wj F oP l_88 Xb (imax JF (len x_90))
def MK(F:Nat)(x_1:bG)(Av:List aS)(IJ:(List (List (List Int))))(JF:Int)(oP:Int):Option (Out ((List aS)×(List (List (List Int)))×Int×Int) ((List aS)×(List (List (List Int)))×Int)):=
 if (decide (oP<(len x_1.aD.aj)))=true then
 (idx Av oP).bind fun Vq=>
 (qt F ({ x_1 with aD:={ x_1.aD with aj:=Av } }) Vq).bind fun x_87=>
 if x_87=true then
 Wj F oP Av IJ JF
 else
 (q5g F Vq).bind fun Vp=>
 (idx Av oP).bind fun _=>
 (upd Av oP Vp.1).bind fun l_95=>
 (idx IJ oP).bind fun _=>
 (upd IJ oP Vp.2).bind fun Au=>
 q9p F JF oP l_95 Au
 else
 some (.done (Av,IJ,JF))
def q5h(F:Nat)(x_1:bG):Option (bG):=
 (mk 24 ([]:List (List Int)) (len x_1.aD.aj)).bind fun xG=>
 (iter (fun s=>MK F x_1 s.1 s.2.1 s.2.2.1 s.2.2.2) F (x_1.aD.aj,xG,0,0)).bind fun o=>
 q9o F x_1 o.1 o.2.1 o.2.2
def q5i(F:Nat)(Ja:eU):Option ((List Int)×Int):=
 if (Ja.cO == 0)=true then
 some ([],1)
 else
 if (decide ((len Ja.Payload) > 65531))=true then
 some ([],4)
 else
 (WR F [(oN.mk 2 (wu64 (len Ja.Payload))),(oN.mk 2 (wu64 Ja.cO))]).bind fun x_2=>
 if (x_2.2 != 0)=true then
 some ([],x_2.2)
 else
 (qa F [x_2.1,Ja.Payload]).bind fun x_3=>
 some (x_3,0)
def q9q(_:Nat)(iC:bG)(jh:List Int)(gH:Int)(O0:bG):Option (aJ×jL×Bool):=
 some ({ iC.aD with Out:=O0.aD.Out,aN:=O0.aD.aN },(jL.mk gH jh),true)
def Zj(F:Nat)(iC:bG)(jh:List Int)(gH:Int)(O0:bG):Option (aJ×jL×Bool):=
 q9q F iC jh gH O0
def Wi(F:Nat)(iC:bG)(eZ:List Int×Int)(jh:List Int)(gH:Int):Option (aJ×jL×Bool):=
 if (decide ((aH ((imax 0 (bD iC.aD.aN (len eZ.1)))+(bD (aH ((len eZ.1) - (imax 0 (bD iC.aD.aN (len eZ.1))))) (imax 27 (bD iC.aD.Length 251)))))≥(len eZ.1)))=true then
 (sub iC.aD.Out 1 (len iC.aD.Out)).bind fun l_26=>
 Zj F iC jh gH ({ iC with aD:={ iC.aD with Out:=l_26,aN:=0 } })
 else
 Zj F iC jh gH ({ iC with aD:={ iC.aD with aN:=aH ((imax 0 (bD iC.aD.aN (len eZ.1)))+(bD (aH ((len eZ.1) - (imax 0 (bD iC.aD.aN (len eZ.1))))) (imax 27 (bD iC.aD.Length 251)))) } })
def Wh(F:Nat)(iC:bG):Option (aJ×jL×Bool):=
 if ((len iC.aD.Out) == 0)=true then
 some (iC.aD,(jL.mk 0 []),false)
 else
 (idx iC.aD.Out 0).bind fun gL=>
 (q5i F gL).bind fun eZ=>
 (sub eZ.1 (imax 0 (bD iC.aD.aN (len eZ.1))) (aH ((imax 0 (bD iC.aD.aN (len eZ.1)))+(bD (aH ((len eZ.1) - (imax 0 (bD iC.aD.aN (len eZ.1))))) (imax 27 (bD iC.aD.Length 251)))))).bind fun KV=>
 (qa F [KV]).bind fun jh=>
 if (iC.aD.aN == 0)=true then
 Wi F iC eZ jh 2
 else
 Wi F iC eZ jh 1
def q1z(F:Nat)(m_1:aJ):Option (aJ×jL×Bool):=
 (qh F m_1).bind fun x_2=>
 if ((len x_2.aD.Out) == 0)=true then
 (q5h F x_2).bind fun sF=>
 Wh F sF
 else
 Wh F x_2
def q9r(_:Nat)(a_1:gV)(nZ:List Int):Option (gV):=
 some ({ a_1 with Buffer:=nZ })
def WO(F:Nat)(a_1:gV):Option (gV):=
 (qa F [a_1.Buffer]).bind fun bV=>
 q9r F a_1 bV
def qbv(_:Nat)(x_2:Int)(x_3:Int):Option (Int×Int):=
 some (x_2,x_3)
def q5j(F:Nat)(b_1:List Int):Option (Int×Int):=
 (idx b_1 0).bind fun bn=>
 (idx b_1 1).bind fun bV=>
 (idx b_1 2).bind fun dK=>
 (idx b_1 3).bind fun fA=>
 qbv F (qF .i64 (aH bn) (jR .i64 (aH bV) 8)) (qF .u16 (fB dK) (jR .u16 (fB fA) 8))
def q9s(_:Nat)(bV:Int):Option (gV×List eU×Int):=
 some ((gV.mk false []),[],bV)
def Wd(F:Nat)(e_2:Int)(bn:Int):Option (gV×List eU×Int):=
 if (e_2 == 0)=true then
 q9s F bn
 else
 q9s F e_2
def q5k(F:Nat)(b_1:List Int)(e_2:Int):Option (gV×List eU×Int):=
 if (decide ((len b_1)<4))=true then
 some ((gV.mk true b_1),[],e_2)
 else
 (q5j F b_1).bind fun x_3=>
 if (x_3.2 == 0)=true then
 Wd F e_2 1
 else
 if ((decide (x_3.1 > 65531))||(decide ((aH ((len b_1) - 4)) > x_3.1)))=true then
 Wd F e_2 4
 else
 if (decide ((aH ((len b_1) - 4))<x_3.1))=true then
 some ((gV.mk true b_1),[],e_2)
 else
 (sub b_1 4 (len b_1)).bind fun l8=>
 (qa F [l8]).bind fun fA=>
 some ((gV.mk false []),[(eU.mk x_3.2 fA)],e_2)
def V9(F:Nat)(bV:Int)(l8:List Int):Option (gV×List eU×Int):=
 (q5k F l8 bV).bind fun fA=>
 some (fA.1,fA.2.1,fA.2.2)
def V8(F:Nat)(iX:jL)(iN:Int):Option (gV×List eU×Int):=
 (qa F [iX.Payload]).bind fun gW=>
 V9 F iN gW
def q4m(F:Nat)(a_1:gV)(iX:jL):Option (gV×List eU×Int):=
 if ((iX.bF == 1)&&((len iX.Payload) == 0))=true then
 (WO F a_1).bind fun x_3=>
 some (x_3,[],0)
 else
 if (((iX.bF != 1)&&(iX.bF != 2))||((len iX.Payload) == 0))=true then
 (WO F a_1).bind fun bn=>
 some (bn,[],12)
 else
 if (iX.bF == 2)=true then
 if (!((!a_1.On)&&((len a_1.Buffer) == 0)))=true then
 V8 F iX 13
 else
 V8 F iX 0
 else
 if ((!a_1.On)&&((len a_1.Buffer) == 0))=true then
 some ((gV.mk false []),[],13)
 else
 (qa F [a_1.Buffer,iX.Payload]).bind fun iH=>
 V9 F 0 iH
def q7u(_:Nat)(c_1:aS)(iX:Int):Option (Bool×Int):=
 some ((c_1.Local == iX),iX)
def qbw(_:Nat)(x_3:Int):Option (Int×Int):=
 some ((-1),x_3)
def PV(F:Nat)(s_1:List aS)(bn:Int)(bV:Int):Option (Out (Int×Int) (Sum (Int) (Int×Int))):=
 if (decide (bV<(len s_1)))=true then
 (idx s_1 bV).bind fun dK=>
 (q7u F dK bn).bind fun fA=>
 if fA.1=true then
 some (.done (.inr (bV,fA.2)))
 else
 some (.next (fA.2,aH (bV+1)))
 else
 some (.done (.inl (bn)))
def q5l(F:Nat)(s_1:List aS)(c_2:Int):Option (Int×Int):=
 (iter (fun s=>PV F s_1 s.1 s.2) F (c_2,0)).bind fun o=>
 match o with
 | .inl u=>qbw F u
 | .inr u=>some u
def q16(F:Nat)(x_1:bG)(dU:Int):Option (Int):=
 (q5l F x_1.aD.aj dU).bind fun x_3=>
 some x_3.1
def qg(_:Nat)(x_1:bG)(e_2:bM):Option (bG):=
 (app 96 x_1.events [e_2]).bind fun xE=>
 some ({ x_1 with events:=xE })
def q9t(F:Nat)(qE:List Int)(xE:List Int):Option ((List Int)×List Int×Int):=
 (qa F [qE]).bind fun dK=>
 some (xE,dK,0)
def q9u(_:Nat)(gW:Int)(rO:List Int)(yI:List Int):Option (Out ((List Int)×List Int×Int) ((List Int)×List Int)):=
 some (.next (rO,yI,aH (gW+1)))
def q9v(F:Nat)(kC:List Int)(oK:List Int)(gW:Int)(gI:Int)(mG:Int):Option (Out ((List Int)×List Int×Int) ((List Int)×List Int)):=
 (app 8 oK [mG]).bind fun pE=>
 (sub kC gI (len kC)).bind fun xG=>
 q9u F gW xG pE
def MJ(_:Nat)(kC:List Int)(gI:Int)(gL:Int)(eZ:Int):Option (Out (Int×Int) (Int)):=
 if (decide (eZ<gI))=true then
 (idx kC eZ).bind fun eG=>
 (Dh .u64 (wu64 eG) (aH (8 * eZ))).bind fun jh=>
 some (.next (qF .u64 gL jh,aH (eZ+1)))
 else
 some (.done (gL))
def PU(F:Nat)(jA:List Int)(kC:List Int)(oK:List Int)(gW:Int):Option (Out ((List Int)×List Int×Int) ((List Int)×List Int)):=
 if (decide (gW<(len jA)))=true then
 (idx jA gW).bind fun gI=>
 (iter (fun s=>MJ F kC gI s.1 s.2) F (0,0)).bind fun o=>
 q9v F kC oK gW gI o
 else
 some (.done (kC,oK))
def Zi(F:Nat)(b_1:List Int)(jA:List Int)(x_3:Int):Option ((List Int)×List Int×Int):=
 if (decide ((len b_1)<x_3))=true then
 some ([],[],3)
 else
 (iter (fun s=>PU F jA s.1 s.2.1 s.2.2) F (b_1,[],0)).bind fun o=>
 q9t F o.1 o.2
def NM(F:Nat)(jA:List Int)(gH:Int)(iq:Int):Option (Out (Int×Int) (Sum (Int) ((List Int)×List Int×Int))):=
 if (decide (iq<(len jA)))=true then
 (idx jA iq).bind fun je=>
 (WT F je).bind fun jZ=>
 if (!jZ)=true then
 some (.done (.inr ([],[],5)))
 else
 some (.next (aH (gH+je),aH (iq+1)))
 else
 some (.done (.inl (gH)))
def UQ(F:Nat)(b_1:List Int)(jA:List Int):Option ((List Int)×List Int×Int):=
 (iter (fun s=>NM F jA s.1 s.2) F (0,0)).bind fun o=>
 match o with
 | .inl u=>Zi F b_1 jA u
 | .inr u=>some u
def qc(_:Nat)(i_1:Int)(iX:List Int):Option (Int×List Int):=
 (idx iX i_1).bind fun x_3=>
 some (aH x_3,iX)
def qw(_:Nat)(i_1:Int)(iX:List Int):Option (Int×List Int):=
 (idx iX i_1).bind fun x_3=>
 some (fB x_3,iX)
def PS(_:Nat)(s_1:aO)(iC:aO):Option (aO):=
 some ({ iC with Kind:=s_1.Kind,ID:=s_1.ID })
def q9w(F:Nat)(s_1:aO)(nZ:List Int)(QC:Bool):Option (aO):=
 if QC=true then
 (qw F 0 nZ).bind fun jh=>
 (qw F 1 jh.2).bind fun gH=>
 PS F s_1 ({ s_1 with Source:=jh.1,aT:=gH.1 })
 else
 if (s_1.Kind == 18)=true then
 (qc F 0 nZ).bind fun iq=>
 (qc F 1 iq.2).bind fun je=>
 (qc F 2 je.2).bind fun jZ=>
 (qc F 3 jZ.2).bind fun jM=>
 (qc F 4 jM.2).bind fun oz=>
 PS F s_1 ({ s_1 with Update:=(fD.mk iq.1 je.1 jZ.1 jM.1 oz.1) })
 else
 if (s_1.Kind == 20)=true then
 (qw F 0 nZ).bind fun yA=>
 (qw F 1 yA.2).bind fun sF=>
 (qc F 2 sF.2).bind fun qL=>
 (qc F 3 qL.2).bind fun qK=>
 (qc F 4 qK.2).bind fun QT=>
 PS F s_1 ({ s_1 with bg:=yA.1,Source:=sF.1,bA:=qL.1,bC:=qK.1,au:=QT.1 })
 else
 if (s_1.Kind == 21)=true then
 (qw F 0 nZ).bind fun MR=>
 (qc F 1 MR.2).bind fun ou=>
 (qc F 2 ou.2).bind fun qJ=>
 (qc F 3 qJ.2).bind fun mF=>
 (qc F 4 mF.2).bind fun kT=>
 PS F s_1 ({ s_1 with Source:=MR.1,bA:=ou.1,bC:=qJ.1,au:=mF.1,Result:=kT.1 })
 else
 if (s_1.Kind == 22)=true then
 (qw F 0 nZ).bind fun jC=>
 (qc F 1 jC.2).bind fun EG=>
 PS F s_1 ({ s_1 with Source:=jC.1,au:=EG.1 })
 else
 PS F s_1 s_1
def q9x(F:Nat)(s_1:aO)(nZ:List Int)(QE:Bool):Option (aO):=
 if QE=true then
 (qc F 0 nZ).bind fun eZ=>
 PS F s_1 ({ s_1 with Result:=eZ.1 })
 else
 if (s_1.Kind == 6)=true then
 q9w F s_1 nZ (s_1.Kind == 6)
 else
 q9w F s_1 nZ (s_1.Kind == 7)
def qi(F:Nat)(s_1:aO)(nZ:List Int):Option (aO):=
 if (s_1.Kind == 1)=true then
 q9x F s_1 nZ (s_1.Kind == 1)
 else
 q9x F s_1 nZ (s_1.Kind == 19)
def q9y(F:Nat)(EB:aO)(oK:List Int)(Fp:List Int)(iH:Int):Option (aO×Int):=
 if (iH != 0)=true then
 some ((aO.mk 0 0 0 0 0 0 0 0 0 (fD.mk 0 0 0 0 0)),iH)
 else
 if (decide ((len Fp) > 0))=true then
 some ((aO.mk 0 0 0 0 0 0 0 0 0 (fD.mk 0 0 0 0 0)),2)
 else
 (qi F ({ EB with bg:=0,Source:=0,aT:=0,bA:=0,bC:=0,au:=0,Result:=0,Update:=(fD.mk 0 0 0 0 0) }) oK).bind fun fM=>
 (WU F fM).bind fun gI=>
 if (gI != 0)=true then
 some ((aO.mk 0 0 0 0 0 0 0 0 0 (fD.mk 0 0 0 0 0)),gI)
 else
 some (fM,0)
def Zh(F:Nat)(b_1:List Int)(EB:aO)(bV:Int)(dK:Int):Option (aO×Int):=
 (WX F EB.Kind).bind fun fA=>
 if (!fA)=true then
 some ((aO.mk 0 0 0 0 0 0 0 0 0 (fD.mk 0 0 0 0 0)),12)
 else
 if (EB.ID == 0)=true then
 some ((aO.mk 0 0 0 0 0 0 0 0 0 (fD.mk 0 0 0 0 0)),5)
 else
 if (bV != dK)=true then
 some ((aO.mk 0 0 0 0 0 0 0 0 0 (fD.mk 0 0 0 0 0)),2)
 else
 (sub b_1 4 (len b_1)).bind fun xG=>
 (qs F EB.Kind).bind fun gL=>
 (UQ F xG gL).bind fun eZ=>
 q9y F EB eZ.1 eZ.2.1 eZ.2.2
def V7(_:Nat)(eG:List Int)(jh:Int)(gH:Int):Option (Out (Int×Int) (Int)):=
 if (decide (gH<(len eG)))=true then
 (idx eG gH).bind fun iq=>
 some (.next (aH (jh+iq),aH (gH+1)))
 else
 some (.done (jh))
def Zg(F:Nat)(b_1:List Int)(EB:aO)(bV:Int):Option (aO×Int):=
 (qs F EB.Kind).bind fun eG=>
 (iter (fun s=>V7 F eG s.1 s.2) F (0,0)).bind fun o=>
 Zh F b_1 EB bV o
def Zf(F:Nat)(b_1:List Int)(EB:aO):Option (aO×Int):=
 (idx b_1 2).bind fun je=>
 (idx b_1 3).bind fun jZ=>
 Zg F b_1 EB (qF .i64 (aH je) (jR .i64 (aH jZ) 8))
def Wq(F:Nat)(b_1:List Int):Option (aO×Int):=
 if (decide ((len b_1)<4))=true then
 some ((aO.mk 0 0 0 0 0 0 0 0 0 (fD.mk 0 0 0 0 0)),3)
 else
 (idx b_1 0).bind fun yA=>
 (idx b_1 1).bind fun sF=>
 Zf F b_1 (aO.mk (aH yA) (aH sF) 0 0 0 0 0 0 0 (fD.mk 0 0 0 0 0))
def q4o(_:Nat):Option (Unit):=
 some ()
def q5m(_:Nat)(dY:aO)(eP:aO):Option (Bool):=
 if (dY.ID != eP.ID)=true then
 some false
 else
 if (dY.Kind == 20)=true then
 some ((eP.Kind == 21)||(eP.Kind == 1))
 else
 if (dY.Kind == 6)=true then
 some ((eP.Kind == 1)||(((eP.Kind == 7)&&(eP.Source == dY.Source))&&(eP.aT == dY.aT)))
 else
 if (dY.Kind == 18)=true then
 some ((eP.Kind == 19)||(eP.Kind == 1))
 else
 some false
def q7w(F:Nat)(r_1:aO)(iX:aO):Option (Bool×aO):=
 (q5m F r_1 iX).bind fun x_3=>
 some (x_3,iX)
def qbx(_:Nat)(FU:aO):Option (Int×aO):=
 some ((-1),FU)
def PO(F:Nat)(s_1:List aO)(LQ:aO)(qJ:Int):Option (Out (aO×Int) (Sum (aO) (Int×aO))):=
 if (decide (qJ<(len s_1)))=true then
 (idx s_1 qJ).bind fun mF=>
 (q7w F mF LQ).bind fun kT=>
 if kT.1=true then
 some (.done (.inr (qJ,kT.2)))
 else
 some (.next (kT.2,aH (qJ+1)))
 else
 some (.done (.inl (LQ)))
def q5n(F:Nat)(s_1:List aO)(c_2:aO):Option (Int×aO):=
 (iter (fun s=>PO F s_1 s.1 s.2) F (c_2,0)).bind fun o=>
 match o with
 | .inl u=>qbx F u
 | .inr u=>some u
def Wp(_:Nat)(s_1:List aO)(kG:Int)(Tt:Int):Option ((List aO)):=
 if 0≤kG∧kG≤Tt∧Tt≤(s_1.length:Int)then
 some (s_1.take kG.toNat++s_1.drop Tt.toNat)
 else
 none
def Qg(F:Nat)(x_1:bG)(s_2:aO):Option (aO×Bool×bG):=
 (q5n F x_1.aD.aB s_2).bind fun x_3=>
 if (decide (x_3.1<0))=true then
 some ((aO.mk 0 0 0 0 0 0 0 0 0 (fD.mk 0 0 0 0 0)),false,x_1)
 else
 (idx x_1.aD.aB x_3.1).bind fun bn=>
 (Wp F x_1.aD.aB x_3.1 (aH (x_3.1+1))).bind fun bV=>
 some (bn,true,{ x_1 with aD:={ x_1.aD with aB:=bV } })
def q5o(_:Nat)(s_1:List aS)(kG:Int)(Tt:Int):Option ((List aS)):=
 if 0≤kG∧kG≤Tt∧Tt≤(s_1.length:Int)then
 some (s_1.take kG.toNat++s_1.drop Tt.toNat)
 else
 none
def WM(F:Nat)(x_1:bG)(kG:Int):Option (bG):=
 (idx x_1.aD.aj kG).bind fun x_3=>
 (q5o F x_1.aD.aj kG (aH (kG+1))).bind fun bn=>
 (qg F ({ x_1 with aD:={ x_1.aD with aj:=bn } }) (bM.mk 4 x_3.Local [] 0 (fD.mk 0 0 0 0 0) 0)).bind fun bV=>
 some bV
def WK(F:Nat)(x_1:bG)(JQ:Int):Option (bG):=
 (q16 F x_1 JQ).bind fun x_3=>
 if (decide (x_3≥0))=true then
 (WM F x_1 x_3).bind fun bn=>
 some bn
 else
 some x_1
def q5p(F:Nat)(x_1:bG)(s_2:aO):Option (bG):=
 (Qg F x_1 s_2).bind fun x_3=>
 if (!x_3.2.1)=true then
 some x_3.2.2
 else
 if (x_3.1.Kind == 20)=true then
 (qg F x_3.2.2 (bM.mk 5 x_3.1.Source [] 1 (fD.mk 0 0 0 0 0) 0)).bind fun bn=>
 some bn
 else
 if (x_3.1.Kind == 6)=true then
 (WK F x_3.2.2 x_3.1.Source).bind fun bV=>
 some bV
 else
 if (x_3.1.Kind == 18)=true then
 (qg F x_3.2.2 (bM.mk 7 0 [] 1 (fD.mk 0 0 0 0 0) s_2.ID)).bind fun dK=>
 some dK
 else
 some x_3.2.2
def Ze(F:Nat)(x_1:bG)(s_2:aO)(x_3:Int)(qI:Bool):Option (bG):=
 if qI=true then
 (qe F x_1 ({ s_2 with Kind:=1,bg:=0,Source:=0,aT:=0,bA:=0,bC:=0,au:=0,Result:=2,Update:=(fD.mk 0 0 0 0 0) })).bind fun bV=>
 some bV
 else
 (qe F x_1 ({ s_2 with Kind:=7,bg:=0,bA:=0,bC:=0,au:=0,Result:=0,Update:=(fD.mk 0 0 0 0 0) })).bind fun dK=>
 (WM F dK x_3).bind fun fA=>
 some fA
def q5q(F:Nat)(x_1:bG)(s_2:aO):Option (bG):=
 (q16 F x_1 s_2.aT).bind fun x_3=>
 if (decide (x_3<0))=true then
 Ze F x_1 s_2 x_3 true
 else
 (idx x_1.aD.aj x_3).bind fun fM=>
 Ze F x_1 s_2 x_3 (fM.Remote != s_2.Source)
def q5r(F:Nat)(x_1:bG)(s_2:aO):Option (bG):=
 (Qg F x_1 s_2).bind fun x_3=>
 if x_3.2.1=true then
 (WK F x_3.2.2 s_2.Source).bind fun bn=>
 some bn
 else
 some x_3.2.2
def q5s(F:Nat)(x_1:bG)(s_2:aO):Option (bG):=
 if (x_1.aD.eT == 0)=true then
 (qg F x_1 (bM.mk 6 0 [] 0 s_2.Update s_2.ID)).bind fun x_3=>
 some x_3
 else
 (qe F x_1 ({ s_2 with Kind:=1,bg:=0,Source:=0,aT:=0,bA:=0,bC:=0,au:=0,Result:=0,Update:=(fD.mk 0 0 0 0 0) })).bind fun bn=>
 some bn
def q5t(F:Nat)(x_1:bG)(s_2:aO):Option (bG):=
 (Qg F x_1 s_2).bind fun x_3=>
 if x_3.2.1=true then
 (qg F x_3.2.2 (bM.mk 7 0 [] s_2.Result (fD.mk 0 0 0 0 0) s_2.ID)).bind fun bn=>
 some bn
 else
 some x_3.2.2
def q7x(_:Nat)(l_1:dX)(iX:aO):Option (Bool×aO):=
 some ((l_1.bg == iX.bg),iX)
def qby(_:Nat)(FU:aO):Option (Int×aO):=
 some ((-1),FU)
def R9(F:Nat)(s_1:List dX)(LQ:aO)(qJ:Int):Option (Out (aO×Int) (Sum (aO) (Int×aO))):=
 if (decide (qJ<(len s_1)))=true then
 (idx s_1 qJ).bind fun mF=>
 (q7x F mF LQ).bind fun kT=>
 if kT.1=true then
 some (.done (.inr (qJ,kT.2)))
 else
 some (.next (kT.2,aH (qJ+1)))
 else
 some (.done (.inl (LQ)))
def q5u(F:Nat)(s_1:List dX)(c_2:aO):Option (Int×aO):=
 (iter (fun s=>R9 F s_1 s.1 s.2) F (c_2,0)).bind fun o=>
 match o with
 | .inl u=>qby F u
 | .inr u=>some u
def q7y(_:Nat)(c_1:aS)(iX:Int):Option (Bool×Int):=
 some ((c_1.Remote == iX),iX)
def qbz(_:Nat)(x_3:Int):Option (Int×Int):=
 some ((-1),x_3)
def PN(F:Nat)(s_1:List aS)(bn:Int)(bV:Int):Option (Out (Int×Int) (Sum (Int) (Int×Int))):=
 if (decide (bV<(len s_1)))=true then
 (idx s_1 bV).bind fun dK=>
 (q7y F dK bn).bind fun fA=>
 if fA.1=true then
 some (.done (.inr (bV,fA.2)))
 else
 some (.next (fA.2,aH (bV+1)))
 else
 some (.done (.inl (bn)))
def q5v(F:Nat)(s_1:List aS)(c_2:Int):Option (Int×Int):=
 (iter (fun s=>PN F s_1 s.1 s.2) F (c_2,0)).bind fun o=>
 match o with
 | .inl u=>qbz F u
 | .inr u=>some u
def UZ(F:Nat)(x_1:bG)(dU:Int):Option (Int):=
 (q5v F x_1.aD.aj dU).bind fun x_3=>
 some x_3.1
def q9z(F:Nat)(x_1:bG)(x_3:Int×aO)(bn:Int×Bool)(ED:Bool):Option (dX×Int):=
 if ED=true then
 some ((dX.mk 0 0 0 0 0),5)
 else
 if (!bn.2)=true then
 some ((dX.mk 0 0 0 0 0),4)
 else
 (UZ F x_1 x_3.2.Source).bind fun dK=>
 if (decide (dK≥0))=true then
 some ((dX.mk 0 0 0 0 0),9)
 else
 (idx x_1.aD.ay x_3.1).bind fun fA=>
 some (fA,0)
def q7z(F:Nat)(x_1:bG)(s_2:aO):Option (dX×Int):=
 (q5u F x_1.aD.ay s_2).bind fun x_3=>
 (U3 F x_1).bind fun bn=>
 if (decide (x_3.1<0))=true then
 some ((dX.mk 0 0 0 0 0),2)
 else
 (idx x_1.aD.ay x_3.1).bind fun iN=>
 q9z F x_1 x_3 bn (decide (x_1.aD.Level<iN.Level))
def q5w(_:Nat)(s_1:List aS)(kG:Int)(v_3:List aS):Option ((List aS)):=
 if 0≤kG∧kG≤(s_1.length:Int)∧v_3.length=1∧(s_1.length+1) * 136≤140737488355328 then
 some (s_1.take kG.toNat++v_3++s_1.drop kG.toNat)
 else
 none
def qa0(_:Nat)(iC:bG):Option (bG):=
 some iC
def qa1(F:Nat)(x_1:bG)(c_2:aS)(jT:List aS):Option (bG):=
 (qg F ({ x_1 with aD:={ x_1.aD with aj:=jT } }) (bM.mk 2 c_2.Local [] 0 (fD.mk 0 0 0 0 0) 0)).bind fun eG=>
 qa0 F eG
def qa2(F:Nat)(x_1:bG)(c_2:aS)(gL:Int):Option (bG):=
 (q5w F x_1.aD.aj gL [{ c_2 with Want:=(-1) }]).bind fun iq=>
 qa1 F x_1 c_2 iq
def UL(_:Nat)(je:Int)(z_23:Bool):Option (Out (Int) (Int)):=
 if z_23=true then
 some (.next (aH (je+1)))
 else
 some (.done (je))
def q22(F:Nat)(x_1:bG)(c_2:aS)(je:Int):Option (Out (Int) (Int)):=
 if (decide (je<(len x_1.aD.aj)))=true then
 (idx x_1.aD.aj je).bind fun sF=>
 UL F je (decide (sF.Local<c_2.Local))
 else
 UL F je false
def WJ(F:Nat)(x_1:bG)(c_2:aS):Option (bG):=
 (iter (fun s=>q22 F x_1 c_2 s) F (0)).bind fun o=>
 qa2 F x_1 c_2 o
def q5y(F:Nat)(x_1:bG)(s_2:aO):Option (bG):=
 (q7z F x_1 s_2).bind fun x_3=>
 if (x_3.2 != 0)=true then
 (qe F x_1 ({ s_2 with Kind:=21,bg:=0,Source:=0,aT:=0,bA:=0,bC:=0,au:=0,Result:=x_3.2,Update:=(fD.mk 0 0 0 0 0) })).bind fun bn=>
 some bn
 else
 (U3 F x_1).bind fun bV=>
 (qe F x_1 (aO.mk 21 s_2.ID 0 bV.1 0 x_3.1.bA x_3.1.bC x_3.1.au 0 (fD.mk 0 0 0 0 0))).bind fun dK=>
 (WJ F dK (aS.mk bV.1 s_2.Source s_2.bg x_3.1.bA x_3.1.bC s_2.bA s_2.bC s_2.au x_3.1.au x_3.1.au [] 0 [] 0 false)).bind fun fA=>
 some fA
def q5z(F:Nat)(x_1:bG)(s_2:aO):Option (bG):=
 (Qg F x_1 s_2).bind fun x_3=>
 if (!x_3.2.1)=true then
 some x_3.2.2
 else
 if (s_2.Result != 0)=true then
 (qg F x_3.2.2 (bM.mk 5 x_3.1.Source [] s_2.Result (fD.mk 0 0 0 0 0) 0)).bind fun bn=>
 some bn
 else
 (UZ F x_3.2.2 s_2.Source).bind fun bV=>
 if (decide (bV≥0))=true then
 (qg F x_3.2.2 (bM.mk 5 x_3.1.Source [] 9 (fD.mk 0 0 0 0 0) 0)).bind fun dK=>
 some dK
 else
 (WJ F x_3.2.2 (aS.mk x_3.1.Source s_2.Source x_3.1.bg x_3.1.bA x_3.1.bC s_2.bA s_2.bC s_2.au x_3.1.au x_3.1.au [] 0 [] 0 false)).bind fun fA=>
 some fA
def WI(_:Nat)(Je:Int)(kX:Int):Option (Int):=
 if (decide (kX<1))=true then
 some 5
 else
 if (decide (kX > (aH (65535 - Je))))=true then
 some 19
 else
 some 0
def Zd(_:Nat)(x_3:aS)(bn:Int)(c_7:aS):Option (aS×Int):=
 some ({ x_3 with aG:=c_7.aG,Failed:=c_7.Failed },bn)
def q4r(F:Nat)(c_1:aS)(kX:Int):Option (aS×Int):=
 (qu F c_1).bind fun x_3=>
 if x_3.Failed=true then
 some (x_3,9)
 else
 (WI F x_3.aG kX).bind fun bn=>
 if (bn == 0)=true then
 Zd F x_3 bn ({ x_3 with aG:=aH (x_3.aG+kX) })
 else
 Zd F x_3 bn ({ x_3 with Failed:=true })
def NV(F:Nat)(x_1:bG)(kG:Int):Option (bG):=
 (idx x_1.aD.aj kG).bind fun x_3=>
 (qt F x_1 x_3).bind fun bn=>
 if (!bn)=true then
 (U1 F x_1 (aO.mk 6 0 0 x_3.Local x_3.Remote 0 0 0 0 (fD.mk 0 0 0 0 0))).bind fun bV=>
 some bV
 else
 some x_1
def qa3(F:Nat)(x_1:bG)(x_3:Int)(je:Int)(Og:List aS):Option (bG):=
 if (je != 0)=true then
 (NV F ({ x_1 with aD:={ x_1.aD with aj:=Og } }) x_3).bind fun jM=>
 some jM
 else
 some ({ x_1 with aD:={ x_1.aD with aj:=Og } })
def qa4(F:Nat)(x_1:bG)(x_3:Int)(xW:aS)(je:Int):Option (bG):=
 (idx x_1.aD.aj x_3).bind fun _=>
 (upd x_1.aD.aj x_3 xW).bind fun KU=>
 qa3 F x_1 x_3 je KU
def q60(F:Nat)(x_1:bG)(s_2:aO):Option (bG):=
 (UZ F x_1 s_2.Source).bind fun x_3=>
 (if (decide (x_3<0))=true then
 some (true)
 else
 (idx x_1.aD.aj x_3).bind fun Ra=>
 (qt F x_1 Ra).bind fun Q9=>
 some (Q9)).bind fun ED=>
 if ED=true then
 some x_1
 else
 (idx x_1.aD.aj x_3).bind fun _=>
 (idx x_1.aD.aj x_3).bind fun Vy=>
 (q4r F Vy s_2.au).bind fun Pd=>
 qa4 F x_1 x_3 Pd.1 Pd.2
def qa5(_:Nat)(Uj:bG):Option (bG):=
 some Uj
def Si(F:Nat)(x_1:bG)(dP:List Int):Option (bG):=
 (Wq F dP).bind fun x_3=>
 if (x_3.2 != 0)=true then
 (if (decide ((len dP)≥2))=true then
 (idx dP 1).bind fun yA=>
 some ((yA != 0))
 else
 some (false)).bind fun QC=>
 (if QC=true then
 (idx dP 0).bind fun jM=>
 some ((jM != 1))
 else
 some (false)).bind fun z_20=>
 if z_20=true then
 (idx dP 1).bind fun iq=>
 (qe F x_1 (aO.mk 1 (aH iq) 0 0 0 0 0 0 0 (fD.mk 0 0 0 0 0))).bind fun je=>
 qa5 F je
 else
 qa5 F x_1
 else
 if ((x_3.1.Kind == 1)||((x_3.1.Kind == 6)||((x_3.1.Kind == 7)||((x_3.1.Kind == 18)||((x_3.1.Kind == 19)||((x_3.1.Kind == 20)||((x_3.1.Kind == 21)||(x_3.1.Kind == 22))))))))=true then
 (q4o F).bind fun _=>
 if (x_3.1.Kind == 1)=true then
 (q5p F x_1 x_3.1).bind fun mF=>
 some mF
 else
 if (x_3.1.Kind == 6)=true then
 (q5q F x_1 x_3.1).bind fun kT=>
 some kT
 else
 if (x_3.1.Kind == 7)=true then
 (q5r F x_1 x_3.1).bind fun jC=>
 some jC
 else
 if (x_3.1.Kind == 18)=true then
 (q5s F x_1 x_3.1).bind fun EG=>
 some EG
 else
 if (x_3.1.Kind == 19)=true then
 (q5t F x_1 x_3.1).bind fun x_38=>
 some x_38
 else
 if (x_3.1.Kind == 20)=true then
 (q5y F x_1 x_3.1).bind fun MQ=>
 some MQ
 else
 if (x_3.1.Kind == 21)=true then
 (q5z F x_1 x_3.1).bind fun oQ=>
 some oQ
 else
 if (x_3.1.Kind == 22)=true then
 (q60 F x_1 x_3.1).bind fun QS=>
 some QS
 else
 none
 else
 (q4o F).bind fun _=>
 some x_1
def qc0(_:Nat)(c_1:aS)(dP:List Int):Option ((List Int)×Int×Int):=
 some (dP,c_1.Want,0)
def qa6(_:Nat)(c_1:aS)(dP:List Int)(bV:Int):Option ((List Int)×Int×Int):=
 if ((decide (bV > c_1.bA))||(decide (bV<(aH ((len dP) - 2)))))=true then
 some ([],0,4)
 else
 (sub dP 2 (len dP)).bind fun l8=>
 some (l8,bV,0)
def q61(F:Nat)(c_1:aS)(dP:List Int):Option ((List Int)×Int×Int):=
 if (decide (c_1.aC≤0))=true then
 some ([],0,19)
 else
 if (decide ((len dP) > c_1.bC))=true then
 some ([],0,4)
 else
 if (c_1.Want != (-1))=true then
 if ((len dP) == 0)=true then
 some ([],0,3)
 else
 if (decide ((aH ((len c_1.In)+(len dP))) > c_1.Want))=true then
 some ([],0,4)
 else
 qc0 F c_1 dP
 else
 if (decide ((len dP)<2))=true then
 some ([],0,3)
 else
 (idx dP 0).bind fun fA=>
 (idx dP 1).bind fun iN=>
 qa6 F c_1 dP (qF .i64 (aH fA) (jR .i64 (aH iN) 8))
def q62(F:Nat)(c_1:aS)(dP:List Int):Option (aS×(List (List Int))×Int):=
 (qu F c_1).bind fun x_3=>
 if x_3.Failed=true then
 some (x_3,[],9)
 else
 (q61 F x_3 dP).bind fun bn=>
 if (bn.2.2 != 0)=true then
 some ({ x_3 with Failed:=true },[],bn.2.2)
 else
 (qa F [x_3.In,bn.1]).bind fun bV=>
 if (decide ((len bV)<bn.2.1))=true then
 some ({ x_3 with aC:=aH (x_3.aC - 1),In:=bV,Want:=bn.2.1 },[],0)
 else
 some ({ x_3 with aC:=aH (x_3.aC - 1),In:=[],Want:=(-1) },[bV],0)
def Zc(_:Nat)(x_3:aS)(bn:Int)(bV:Int):Option (aS×Int):=
 some ({ x_3 with aC:=bV },bn)
def q63(F:Nat)(c_1:aS)(kX:Int):Option (aS×Int):=
 (qu F c_1).bind fun x_3=>
 if x_3.Failed=true then
 some (x_3,9)
 else
 (WI F x_3.aC kX).bind fun bn=>
 if (bn == 0)=true then
 Zc F x_3 bn (aH (x_3.aC+kX))
 else
 Zc F x_3 bn x_3.aC
def qa7(_:Nat)(Uj:bG):Option (bG):=
 some Uj
def qa8(F:Nat)(eG:aS×(List (List Int))×Int)(tX:bG)(jC:aS×Int)(l_37:List aS):Option (bG):=
 (UR F ({ tX with aD:={ tX.aD with aj:=l_37 } })).bind fun oQ=>
 (qe F oQ.2 (aO.mk 22 oQ.1 0 jC.1.Local 0 0 0 (aH (eG.1.Given - eG.1.aC)) 0 (fD.mk 0 0 0 0 0))).bind fun QS=>
 qa7 F QS
def qa9(F:Nat)(kG:Int)(eG:aS×(List (List Int))×Int)(tX:bG):Option (bG):=
 (if (decide ((aH (eG.1.Given - eG.1.aC))≤0))=true then
 some (true)
 else
 some (decide (eG.1.aC > (wP .i64 eG.1.Given 2)))).bind fun z_35=>
 if z_35=true then
 some tX
 else
 (q63 F eG.1 (aH (eG.1.Given - eG.1.aC))).bind fun jC=>
 if (jC.2 == 0)=true then
 (idx tX.aD.aj kG).bind fun _=>
 (upd tX.aD.aj kG jC.1).bind fun l_45=>
 qa8 F eG tX jC l_45
 else
 qa7 F tX
def MI(F:Nat)(eG:aS×(List (List Int))×Int)(Yv:bG)(QM:Int):Option (Out (bG×Int) (bG)):=
 if (decide (QM<(len eG.2.1)))=true then
 (idx eG.2.1 QM).bind fun x_61=>
 (qg F Yv (bM.mk 3 eG.1.Local x_61 0 (fD.mk 0 0 0 0 0) 0)).bind fun x_62=>
 some (.next (x_62,aH (QM+1)))
 else
 some (.done (Yv))
def qaa(F:Nat)(x_1:bG)(kG:Int)(eG:aS×(List (List Int))×Int)(rM:List aS):Option (bG):=
 if (eG.2.2 != 0)=true then
 (NV F ({ x_1 with aD:={ x_1.aD with aj:=rM } }) kG).bind fun gH=>
 some gH
 else
 (iter (fun s=>MI F eG s.1 s.2) F ({ x_1 with aD:={ x_1.aD with aj:=rM } },0)).bind fun o=>
 qa9 F kG eG o
def Wo(F:Nat)(x_1:bG)(kG:Int)(FX:List Int):Option (bG):=
 (idx x_1.aD.aj kG).bind fun eZ=>
 (q62 F eZ FX).bind fun eG=>
 (idx x_1.aD.aj kG).bind fun _=>
 (upd x_1.aD.aj kG eG.1).bind fun l_66=>
 qaa F x_1 kG eG l_66
def qab(_:Nat)(DI:bG):Option (aJ×List bM):=
 some (DI.aD,DI.events)
def qac(F:Nat)(DI:bG):Option (aJ×List bM):=
 qab F DI
def UK(_:Nat)(jC:Int)(c_49:bG):Option (Out (bG×Int) (bG)):=
 some (.next (c_49,aH (jC+1)))
def NK(F:Nat)(kC:List eU)(DF:bG)(jC:Int):Option (Out (bG×Int) (bG)):=
 if (decide (jC<(len kC)))=true then
 (idx kC jC).bind fun BO=>
 (q16 F DF BO.cO).bind fun QO=>
 if ((BO.cO == 4)||(BO.cO == 6))=true then
 (qg F DF (bM.mk 1 BO.cO BO.Payload 0 (fD.mk 0 0 0 0 0) 0)).bind fun x_52=>
 UK F jC x_52
 else
 if (BO.cO == 5)=true then
 (Si F DF BO.Payload).bind fun x_53=>
 UK F jC x_53
 else
 (if (decide (QO≥0))=true then
 (idx DF.aD.aj QO).bind fun x_58=>
 (qt F DF x_58).bind fun Ac=>
 some ((!Ac))
 else
 some (false)).bind fun z_55=>
 if z_55=true then
 (Wo F DF QO BO.Payload).bind fun x_56=>
 UK F jC x_56
 else
 UK F jC DF
 else
 some (.done (DF))
def qad(F:Nat)(x_3:bG)(EA:gV)(kC:List eU):Option (aJ×List bM):=
 (iter (fun s=>NK F kC s.1 s.2) F ({ x_3 with aD:={ x_3.aD with aA:=EA } },0)).bind fun o=>
 qac F o
def q24(F:Nat)(m_1:aJ)(iX:jL):Option (aJ×List bM):=
 (qh F m_1).bind fun x_3=>
 (q4m F x_3.aD.aA iX).bind fun Pj=>
 qad F x_3 Pj.1 Pj.2.1
def WH(F:Nat)(m_1:aJ)(dU:Int)(FX:List Int):Option (aJ×Int):=
 (qh F m_1).bind fun bn=>
 if ((dU != 4)&&(dU != 6))=true then
 some (bn.aD,5)
 else
 if (decide ((len FX) > 4096))=true then
 some (bn.aD,4)
 else
 (Sr F bn).bind fun bV=>
 if bV=true then
 some (bn.aD,8)
 else
 (U2 F bn dU FX).bind fun dK=>
 some (dK.aD,0)
def WG(F:Nat)(x_1:bG)(dU:Int):Option (Int×Int):=
 (q16 F x_1 dU).bind fun x_3=>
 if (decide (x_3<0))=true then
 some (0,6)
 else
 (idx x_1.aD.aj x_3).bind fun bn=>
 (qt F x_1 bn).bind fun bV=>
 if bV=true then
 some (0,9)
 else
 some (x_3,0)
def qae(_:Nat)(x_3:aS)(qE:List (List Int)):Option (aS×Int):=
 some ({ x_3 with Out:=qE },0)
def Z9(F:Nat)(c_1:aS)(Ct:List Int):Option (aS×Int):=
 (qu F c_1).bind fun x_3=>
 if x_3.Failed=true then
 some (x_3,9)
 else
 if (decide ((len Ct) > x_3.gQ))=true then
 some (x_3,4)
 else
 if (decide ((len x_3.Out)≥64))=true then
 some (x_3,8)
 else
 (qa F [Ct]).bind fun fA=>
 (app 24 x_3.Out [fA]).bind fun oK=>
 qae F x_3 oK
def qc1(_:Nat)(bn:bG)(oK:List aS):Option (aJ×Int):=
 some ({ bn.aD with aj:=oK },0)
def WE(F:Nat)(m_1:aJ)(dU:Int)(FX:List Int):Option (aJ×Int):=
 (qh F m_1).bind fun bn=>
 (WG F bn dU).bind fun bV=>
 if (bV.2 != 0)=true then
 some (bn.aD,bV.2)
 else
 (idx bn.aD.aj bV.1).bind fun dK=>
 (Z9 F dK FX).bind fun fA=>
 if (fA.2 != 0)=true then
 some (bn.aD,fA.2)
 else
 (idx bn.aD.aj bV.1).bind fun _=>
 (upd bn.aD.aj bV.1 fA.1).bind fun KW=>
 qc1 F bn KW
def qk(_:Nat)(a_1:List Int)(dP:List Int):Option (Bool):=
 some ((str a_1) == (str dP))
def U5(F:Nat):Option (Bool):=
 (U4 F 0 []).bind fun x_1=>
 (U4 F 1 []).bind fun x_2=>
 (WQ F x_1.1 128 40 30 4).bind fun x_3=>
 (q1z F x_3.1).bind fun bn=>
 (q24 F x_2.1 bn.2.1).bind fun bV=>
 (q1z F bV.1).bind fun dK=>
 (q24 F bn.1 dK.2.1).bind fun fA=>
 (WH F bn.1 5 []).bind fun iN=>
 (WE F bn.1 64 []).bind fun gW=>
 if ((((((((x_1.2 != 0)||(x_2.2 != 0))||(x_3.2.2 != 0))||(x_3.2.1 != 64))||(!bn.2.2))||((len fA.2) != 1))||(iN.2 != 5))||(gW.2 != 6))=true then
 some false
 else
 (if (bn.2.1.bF == 2)=true then
 (qk F bn.2.1.Payload [14,0,5,0,20,1,10,0,128,0,64,0,40,0,30,0,4,0]).bind fun oz=>
 some (oz)
 else
 some (false)).bind fun JD=>
 (if JD=true then
 (idx fA.2 0).bind fun jZ=>
 some ((jZ.Kind == 5))
 else
 some (false)).bind fun QJ=>
 (if QJ=true then
 (idx fA.2 0).bind fun iq=>
 some ((iq.cO == 64))
 else
 some (false)).bind fun QG=>
 (if QG=true then
 (idx fA.2 0).bind fun jh=>
 some ((jh.Result == 2))
 else
 some (false)).bind fun QD=>
 some QD
def Qf(_:Nat)(tH:Int):Option (Bool):=
 some ((decide (tH≥23))&&(decide (tH≤4096)))
def WB(_:Nat)(tH:Int):Option (Bool):=
 some ((decide (tH≥0))&&(decide (tH≤65535)))
def qaf(_:Nat)(j6:Int)(bT:List dX):Option (aJ×Int):=
 (app 40 ([]:List dX) bT).bind fun sD=>
 some ((aJ.mk j6 0 sD [] [] 1 (gV.mk false []) [] 0 27),0)
def qag(_:Nat)(bn:Int):Option (Out (Int) (Sum (Unit) (aJ×Int))):=
 some (.next (aH (bn+1)))
def qah(F:Nat)(bn:Int)(bV:dX):Option (Out (Int) (Sum (Unit) (aJ×Int))):=
 (Qf F bV.bA).bind fun dK=>
 (if (!dK)=true then
 some (true)
 else
 (Qf F bV.bC).bind fun iG=>
 some ((!iG))).bind fun yR=>
 (if yR=true then
 some (true)
 else
 (WB F bV.au).bind fun gI=>
 some ((!gI))).bind fun vU=>
 if ((vU||(decide (bV.Level<0)))||(decide (bV.Level > 2)))=true then
 some (.done (.inr ((aJ.mk 0 0 [] [] [] 0 (gV.mk false []) [] 0 0),5)))
 else
 qag F bn
def qai(_:Nat)(gN:Int)(QE:Bool):Option (Out (Int) (Sum (Unit) (aJ×Int))):=
 if QE=true then
 some (.done (.inr ((aJ.mk 0 0 [] [] [] 0 (gV.mk false []) [] 0 0),7)))
 else
 some (.next (aH (gN+1)))
def PL(F:Nat)(bT:List dX)(bn:Int)(bV:dX)(gN:Int):Option (Out (Int) (Sum (Unit) (aJ×Int))):=
 if (decide (gN<bn))=true then
 (idx bT gN).bind fun eZ=>
 qai F gN (eZ.bg == bV.bg)
 else
 some (.done (.inl ()))
def PK(F:Nat)(bT:List dX)(bn:Int):Option (Out (Int) (Sum (Unit) (aJ×Int))):=
 if (decide (bn<(len bT)))=true then
 (idx bT bn).bind fun bV=>
 if (bV.bg == 0)=true then
 some (.done (.inr ((aJ.mk 0 0 [] [] [] 0 (gV.mk false []) [] 0 0),1)))
 else
 (iter (fun s=>PL F bT bn bV s) F (0)).bind fun o=>
 match o with
 | .inl _=>qah F bn bV
 | .inr u=>some (.done (.inr u))
 else
 some (.done (.inl ()))
def Z8(F:Nat)(j6:Int)(bT:List dX):Option (aJ×Int):=
 if ((j6 != 0)&&(j6 != 1))=true then
 some ((aJ.mk 0 0 [] [] [] 0 (gV.mk false []) [] 0 0),1)
 else
 if (decide ((len bT) > 64))=true then
 some ((aJ.mk 0 0 [] [] [] 0 (gV.mk false []) [] 0 0),4)
 else
 (iter (fun s=>PK F bT s) F (0)).bind fun o=>
 match o with
 | .inl _=>qaf F j6 bT
 | .inr u=>some u
def qaj(_:Nat):Option (Bool):=
 some true
def qak(_:Nat)(x_3:Int)(qI:Bool):Option (Out (Int) (Sum (Unit) (Bool))):=
 if qI=true then
 some (.done (.inr false))
 else
 some (.next (aH (x_3+1)))
def PI(F:Nat)(a_1:List (List Int))(dP:List (List Int))(x_3:Int):Option (Out (Int) (Sum (Unit) (Bool))):=
 if (decide (x_3<(len a_1)))=true then
 (idx a_1 x_3).bind fun bV=>
 (idx dP x_3).bind fun dK=>
 (qk F bV dK).bind fun gW=>
 qak F x_3 (!gW)
 else
 some (.done (.inl ()))
def Z7(F:Nat)(a_1:List (List Int))(dP:List (List Int)):Option (Bool):=
 if ((len a_1) != (len dP))=true then
 some false
 else
 (iter (fun s=>PI F a_1 dP s) F (0)).bind fun o=>
 match o with
 | .inl _=>qaj F
 | .inr u=>some u
def Z6(F:Nat)(a_1:aS)(dP:aS):Option (Bool):=
 if (((((((a_1.Local != dP.Local)||(a_1.Remote != dP.Remote))||(a_1.bg != dP.bg))||(a_1.bA != dP.bA))||(a_1.bC != dP.bC))||(a_1.gQ != dP.gQ))||(a_1.bf != dP.bf))=true then
 some false
 else
 if ((((((a_1.aG != dP.aG)||(a_1.aC != dP.aC))||(a_1.Given != dP.Given))||(a_1.aN != dP.aN))||(a_1.Want != dP.Want))||(a_1.Failed != dP.Failed))=true then
 some false
 else
 (Z7 F a_1.Out dP.Out).bind fun x_3=>
 (if x_3=true then
 (qk F a_1.In dP.In).bind fun fA=>
 some (fA)
 else
 some (false)).bind fun ED=>
 some ED
def Z5(F:Nat)(a_1:gV)(dP:gV):Option (Bool):=
 (if (a_1.On == dP.On)=true then
 (qk F a_1.Buffer dP.Buffer).bind fun dK=>
 some (dK)
 else
 some (false)).bind fun qI=>
 some qI
def qc2(_:Nat):Option (Bool):=
 some true
def Zb(_:Nat)(x_3:Int)(qI:Bool):Option (Out (Int) (Sum (Unit) (Bool))):=
 if qI=true then
 some (.done (.inr false))
 else
 some (.next (aH (x_3+1)))
def PG(F:Nat)(a_1:List eU)(dP:List eU)(x_3:Int):Option (Out (Int) (Sum (Unit) (Bool))):=
 if (decide (x_3<(len a_1)))=true then
 (idx a_1 x_3).bind fun bV=>
 (idx dP x_3).bind fun dK=>
 if (bV.cO != dK.cO)=true then
 Zb F x_3 true
 else
 (qk F bV.Payload dK.Payload).bind fun iH=>
 Zb F x_3 (!iH)
 else
 some (.done (.inl ()))
def Z4(F:Nat)(a_1:List eU)(dP:List eU):Option (Bool):=
 if ((len a_1) != (len dP))=true then
 some false
 else
 (iter (fun s=>PG F a_1 dP s) F (0)).bind fun o=>
 match o with
 | .inl _=>qc2 F
 | .inr u=>some u
def qal(F:Nat)(a_1:aJ)(dP:aJ):Option (Bool):=
 (Z5 F a_1.aA dP.aA).bind fun x_3=>
 (if x_3=true then
 (Z4 F a_1.Out dP.Out).bind fun fA=>
 some (fA)
 else
 some (false)).bind fun ED=>
 some ED
def qam(_:Nat)(iN:Int)(z_9:Bool):Option (Out (Int) (Sum (Unit) (Bool))):=
 if z_9=true then
 some (.done (.inr false))
 else
 some (.next (aH (iN+1)))
def PE(F:Nat)(a_1:aJ)(dP:aJ)(iN:Int):Option (Out (Int) (Sum (Unit) (Bool))):=
 if (decide (iN<(len a_1.aB)))=true then
 (idx a_1.aB iN).bind fun iH=>
 (idx dP.aB iN).bind fun fM=>
 qam F iN (!((iH.Kind == fM.Kind)&&((iH.ID == fM.ID)&&((iH.bg == fM.bg)&&((iH.Source == fM.Source)&&((iH.aT == fM.aT)&&((iH.bA == fM.bA)&&((iH.bC == fM.bC)&&((iH.au == fM.au)&&((iH.Result == fM.Result)&&((iH.Update.aU == fM.Update.aU)&&((iH.Update.aL == fM.Update.aL)&&((iH.Update.Interval == fM.Update.Interval)&&((iH.Update.aV == fM.Update.aV)&&(iH.Update.Timeout == fM.Update.Timeout)))))))))))))))
 else
 some (.done (.inl ()))
def qan(F:Nat)(a_1:aJ)(dP:aJ):Option (Bool):=
 (iter (fun s=>PE F a_1 dP s) F (0)).bind fun o=>
 match o with
 | .inl _=>qal F a_1 dP
 | .inr u=>some u
def qao(_:Nat)(iG:Int)(QG:Bool):Option (Out (Int) (Sum (Unit) (Bool))):=
 if QG=true then
 some (.done (.inr false))
 else
 some (.next (aH (iG+1)))
def PD(F:Nat)(a_1:aJ)(dP:aJ)(iG:Int):Option (Out (Int) (Sum (Unit) (Bool))):=
 if (decide (iG<(len a_1.aj)))=true then
 (idx a_1.aj iG).bind fun gL=>
 (idx dP.aj iG).bind fun eZ=>
 (Z6 F gL eZ).bind fun gH=>
 qao F iG (!gH)
 else
 some (.done (.inl ()))
def qap(F:Nat)(a_1:aJ)(dP:aJ):Option (Bool):=
 (iter (fun s=>PD F a_1 dP s) F (0)).bind fun o=>
 match o with
 | .inl _=>qan F a_1 dP
 | .inr u=>some u
def qaq(_:Nat)(iq:Int)(z_22:Bool):Option (Out (Int) (Sum (Unit) (Bool))):=
 if z_22=true then
 some (.done (.inr false))
 else
 some (.next (aH (iq+1)))
def q3z(F:Nat)(a_1:aJ)(dP:aJ)(iq:Int):Option (Out (Int) (Sum (Unit) (Bool))):=
 if (decide (iq<(len a_1.ay)))=true then
 (idx a_1.ay iq).bind fun jZ=>
 (idx dP.ay iq).bind fun jM=>
 qaq F iq (!((jZ.bg == jM.bg)&&((jZ.bA == jM.bA)&&((jZ.bC == jM.bC)&&((jZ.au == jM.au)&&(jZ.Level == jM.Level))))))
 else
 some (.done (.inl ()))
def Wz(F:Nat)(a_1:aJ)(dP:aJ):Option (Bool):=
 if ((((((((a_1.eT != dP.eT)||(a_1.Level != dP.Level))||(a_1.bQ != dP.bQ))||(a_1.aN != dP.aN))||(a_1.Length != dP.Length))||((len a_1.ay) != (len dP.ay)))||((len a_1.aj) != (len dP.aj)))||((len a_1.aB) != (len dP.aB)))=true then
 some false
 else
 (iter (fun s=>q3z F a_1 dP s) F (0)).bind fun o=>
 match o with
 | .inl _=>qap F a_1 dP
 | .inr u=>some u
def qc3(_:Nat):Option (Int):=
 some (-1)
def Pz(_:Nat)(m_1:aJ)(dU:Int)(x_3:Int):Option (Out (Int) (Sum (Unit) (Int))):=
 if (decide (x_3<(len m_1.aj)))=true then
 (idx m_1.aj x_3).bind fun bn=>
 if (bn.Local == dU)=true then
 some (.done (.inr x_3))
 else
 some (.next (aH (x_3+1)))
 else
 some (.done (.inl ()))
def ql(F:Nat)(m_1:aJ)(dU:Int):Option (Int):=
 (iter (fun s=>Pz F m_1 dU s) F (0)).bind fun o=>
 match o with
 | .inl _=>qc3 F
 | .inr u=>some u
def qc4(_:Nat):Option (Bool):=
 some false
def Py(_:Nat)(m_1:aJ)(FB:Int)(wE:Int)(bn:Int):Option (Out (Int) (Sum (Unit) (Bool))):=
 if (decide (bn<(len m_1.aB)))=true then
 (idx m_1.aB bn).bind fun bV=>
 (if (bV.Kind == FB)=true then
 (idx m_1.aB bn).bind fun gW=>
 some ((gW.Source == wE))
 else
 some (false)).bind fun Vm=>
 if Vm=true then
 some (.done (.inr true))
 else
 some (.next (aH (bn+1)))
 else
 some (.done (.inl ()))
def Sn(F:Nat)(m_1:aJ)(FB:Int)(wE:Int):Option (Bool):=
 (iter (fun s=>Py F m_1 FB wE s) F (0)).bind fun o=>
 match o with
 | .inl _=>qc4 F
 | .inr u=>some u
def Z0(F:Nat)(m_1:aJ)(dU:Int):Option (Bool):=
 (ql F m_1 dU).bind fun x_3=>
 (if (decide (x_3≥0))=true then
 some (true)
 else
 (Sn F m_1 20 dU).bind fun fM=>
 some (fM)).bind fun ED=>
 (if ED=true then
 some (true)
 else
 (Sn F m_1 6 dU).bind fun gW=>
 some (gW)).bind fun Vm=>
 some Vm
def qar(_:Nat)(x_2:Int)(x_3:Int):Option (Int×Bool):=
 some (x_3,decide (x_2<16))
def Za(_:Nat)(dK:Int)(fA:Int)(iN:Int):Option (Out (Int×Int×Int) (Int×Int)):=
 some (.next (fA,iN,fB (dK - 1)))
def Px(F:Nat)(m_1:aJ)(bn:Int)(bV:Int)(dK:Int):Option (Out (Int×Int×Int) (Int×Int)):=
 if (decide (dK≥64))=true then
 (Z0 F m_1 dK).bind fun gW=>
 if gW=true then
 Za F dK (aH (bn+1)) bV
 else
 Za F dK bn dK
 else
 some (.done (bn,bV))
def Wy(F:Nat)(m_1:aJ):Option (Int×Bool):=
 (iter (fun s=>Px F m_1 s.1 s.2.1 s.2.2) F (0,0,127)).bind fun o=>
 qar F o.1 o.2
def Wx(_:Nat)(id_1:Int):Option (Int):=
 if (decide (id_1≥255))=true then
 some 1
 else
 some (aH (id_1+1))
def qas(F:Nat)(m_1:aJ)(x_2:Int):Option (aJ×Int):=
 (Wx F x_2).bind fun x_3=>
 some ({ m_1 with bQ:=x_3 },x_2)
def V6(_:Nat)(dK:Int)(fA:Int):Option (Out (Int×Int) (Int)):=
 some (.next (dK,aH (fA+1)))
def Jt(F:Nat)(m_1:aJ)(bn:Int)(bV:Int):Option (Out (Int×Int) (Int)):=
 if (decide (bV<(len m_1.aB)))=true then
 (idx m_1.aB bV).bind fun iN=>
 if (iN.ID == bn)=true then
 (Wx F bn).bind fun gW=>
 V6 F gW (-1)
 else
 V6 F bn bV
 else
 some (.done (bn))
def Ww(F:Nat)(m_1:aJ):Option (aJ×Int):=
 (iter (fun s=>Jt F m_1 s.1 s.2) F (m_1.bQ,0)).bind fun o=>
 qas F m_1 o
def Y9(_:Nat)(bP:Int)(QB:Bool):Option (sj):=
 if QB=true then
 some (sj.mk true false true true false false false false)
 else
 if (bP == 18)=true then
 some (sj.mk true false false false false false false true)
 else
 if (bP == 20)=true then
 some (sj.mk true true true false true true false false)
 else
 if (bP == 21)=true then
 some (sj.mk true false true false true true true false)
 else
 if (bP == 22)=true then
 some (sj.mk true false true false false true false false)
 else
 some (sj.mk false false false false false false false false)
def Y8(F:Nat)(bP:Int)(JB:Bool):Option (sj):=
 if JB=true then
 some (sj.mk true false false false false false true false)
 else
 if (bP == 6)=true then
 Y9 F bP (bP == 6)
 else
 Y9 F bP (bP == 7)
def qm(F:Nat)(bP:Int):Option (sj):=
 if (bP == 1)=true then
 Y8 F bP (bP == 1)
 else
 Y8 F bP (bP == 19)
def ZY(F:Nat)(s_1:aO):Option (Bool):=
 (qm F s_1.Kind).bind fun x_2=>
 if (((((!x_2.bg)&&(s_1.bg != 0))||((!x_2.Source)&&(s_1.Source != 0)))||((!x_2.aT)&&(s_1.aT != 0)))||((!x_2.kS)&&((s_1.bA != 0)||(s_1.bC != 0))))=true then
 some false
 else
 (if ((x_2.au||(s_1.au == 0))&&(x_2.Result||(s_1.Result == 0)))=true then
 if x_2.Update=true then
 some (true)
 else
 some (((s_1.Update.aU == 0)&&((s_1.Update.aL == 0)&&((s_1.Update.Interval == 0)&&((s_1.Update.aV == 0)&&(s_1.Update.Timeout == 0))))))
 else
 some (false)).bind fun qI=>
 some qI
def q81(_:Nat)(bP:Int)(kX:Int):Option (Bool):=
 if (bP == 1)=true then
 some ((kX == 0)||(kX == 2))
 else
 if (bP == 19)=true then
 some ((kX == 0)||(kX == 1))
 else
 some (((((kX == 0)||(kX == 2))||(kX == 4))||(kX == 5))||(kX == 9))
def q4t(_:Nat)(tH:Int):Option (Bool):=
 some ((decide (tH≥64))&&(decide (tH≤127)))
def q4u(_:Nat)(tH:Int):Option (Bool):=
 some ((decide (tH≥23))&&(decide (tH≤4096)))
def V5(_:Nat)(s_1:aO)(x_2:sj)(gW:Int):Option (Bool):=
 some ((!x_2.au)||((decide (s_1.au≥gW))&&(decide (s_1.au≤65535))))
def ZX(F:Nat)(s_1:aO):Option (Bool):=
 (qm F s_1.Kind).bind fun x_2=>
 (if x_2.Source=true then
 (q4t F s_1.Source).bind fun jh=>
 some ((!jh))
 else
 some (false)).bind fun qI=>
 (if qI=true then
 some (true)
 else
 if x_2.aT=true then
 (q4t F s_1.aT).bind fun eZ=>
 some ((!eZ))
 else
 some (false)).bind fun QA=>
 (if QA=true then
 some (true)
 else
 if x_2.kS=true then
 (q4u F s_1.bA).bind fun gI=>
 if (!gI)=true then
 some (true)
 else
 (q4u F s_1.bC).bind fun iG=>
 some ((!iG))
 else
 some (false)).bind fun yR=>
 if yR=true then
 some false
 else
 if (s_1.Kind == 22)=true then
 V5 F s_1 x_2 1
 else
 V5 F s_1 x_2 0
def Sq(_:Nat)(tH:Int)(KR:Int)(FI:Int):Option (Bool):=
 some ((decide (tH≥KR))&&(decide (tH≤FI)))
def Wv(F:Nat)(u_1:fD):Option (Int):=
 (Sq F u_1.aU 1 8).bind fun x_2=>
 (if (!x_2)=true then
 some (true)
 else
 (Sq F u_1.aL 0 3200).bind fun eG=>
 some ((!eG))).bind fun qI=>
 (if qI=true then
 some (true)
 else
 (Sq F u_1.Interval 6 3200).bind fun gL=>
 some ((!gL))).bind fun QA=>
 (if QA=true then
 some (true)
 else
 (Sq F u_1.aV 0 499).bind fun iG=>
 some ((!iG))).bind fun yR=>
 (if yR=true then
 some (true)
 else
 (Sq F u_1.Timeout 10 3200).bind fun gI=>
 some ((!gI))).bind fun vU=>
 if vU=true then
 some 5
 else
 if (((decide (u_1.aU≥u_1.Interval))||(decide (u_1.aL > u_1.Interval)))||(decide ((aH (u_1.Timeout * 10000))≤(aH ((aH ((aH (2 * (aH (u_1.aV+1)))) * u_1.Interval)) * 1250)))))=true then
 some 11
 else
 some 0
def Wu(F:Nat)(s_1:aO):Option (Int):=
 (qm F s_1.Kind).bind fun x_2=>
 if (!x_2.Known)=true then
 some 12
 else
 if ((decide (s_1.ID<1))||(decide (s_1.ID > 255)))=true then
 some 5
 else
 (ZY F s_1).bind fun x_3=>
 if (!x_3)=true then
 some 1
 else
 (if x_2.Result=true then
 (q81 F s_1.Kind s_1.Result).bind fun gW=>
 some ((!gW))
 else
 some (false)).bind fun ED=>
 if ED=true then
 some 5
 else
 if ((s_1.Kind == 21)&&(s_1.Result != 0))=true then
 if ((((s_1.Source != 0)||(s_1.bA != 0))||(s_1.bC != 0))||(s_1.au != 0))=true then
 some 1
 else
 some 0
 else
 if (x_2.bg&&(s_1.bg == 0))=true then
 some 1
 else
 (ZX F s_1).bind fun dK=>
 if (!dK)=true then
 some 5
 else
 if x_2.Update=true then
 (Wv F s_1.Update).bind fun fA=>
 some fA
 else
 some 0
def qat(_:Nat)(sD:List Int):Option ((List Int)):=
 some sD
def Pw(_:Nat)(EP:Int)(bn:Int)(xE:List Int)(dK:Int):Option (Out (Int×List Int×Int) ((List Int))):=
 if (decide (dK<EP))=true then
 (app 1 xE [gX (uX bn 256)]).bind fun kC=>
 some (.next ((wP .u64 bn 256),kC,aH (dK+1)))
 else
 some (.done (xE))
def qb(F:Nat)(tH:Int)(EP:Int):Option ((List Int)):=
 (iter (fun s=>Pw F EP s.1 s.2.1 s.2.2) F (tH,[],0)).bind fun o=>
 qat F o
def q83(F:Nat)(u_1:fD):Option ((List Int)):=
 (qb F (wu64 u_1.aU) 1).bind fun x_2=>
 (qb F (wu64 u_1.aL) 2).bind fun x_3=>
 (app 1 x_2 x_3).bind fun qE=>
 (qb F (wu64 u_1.Interval) 2).bind fun bV=>
 (app 1 qE bV).bind fun l8=>
 (qb F (wu64 u_1.aV) 2).bind fun fA=>
 (app 1 l8 fA).bind fun oK=>
 (qb F (wu64 u_1.Timeout) 2).bind fun gW=>
 (app 1 oK gW).bind fun rO=>
 some rO
def KC(_:Nat)(Fp:List Int):Option ((List Int)):=
 some Fp
def KA(F:Nat)(s_1:aO)(x_2:sj)(oK:List Int):Option ((List Int)):=
 if x_2.Update=true then
 (q83 F s_1.Update).bind fun iH=>
 (app 1 oK iH).bind fun yI=>
 KC F yI
 else
 KC F oK
def Kz(F:Nat)(s_1:aO)(x_2:sj)(kC:List Int):Option ((List Int)):=
 if x_2.Result=true then
 (qb F (wu64 s_1.Result) 2).bind fun gI=>
 (app 1 kC gI).bind fun Fq=>
 KA F s_1 x_2 Fq
 else
 KA F s_1 x_2 kC
def Ky(F:Nat)(s_1:aO)(x_2:sj)(l8:List Int):Option ((List Int)):=
 if x_2.au=true then
 (qb F (wu64 s_1.au) 2).bind fun iG=>
 (app 1 l8 iG).bind fun xG=>
 Kz F s_1 x_2 xG
 else
 Kz F s_1 x_2 l8
def Kw(F:Nat)(s_1:aO)(x_2:sj)(xE:List Int):Option ((List Int)):=
 if x_2.kS=true then
 (qb F (wu64 s_1.bA) 2).bind fun gL=>
 (app 1 xE gL).bind fun jT=>
 (qb F (wu64 s_1.bC) 2).bind fun eG=>
 (app 1 jT eG).bind fun rM=>
 Ky F s_1 x_2 rM
 else
 Ky F s_1 x_2 xE
def Kv(F:Nat)(s_1:aO)(x_2:sj)(qE:List Int):Option ((List Int)):=
 if x_2.aT=true then
 (qb F (wu64 s_1.aT) 2).bind fun gH=>
 (app 1 qE gH).bind fun l_21=>
 Kw F s_1 x_2 l_21
 else
 Kw F s_1 x_2 qE
def Ku(F:Nat)(s_1:aO)(x_2:sj)(sD:List Int):Option ((List Int)):=
 if x_2.Source=true then
 (qb F (wu64 s_1.Source) 2).bind fun je=>
 (app 1 sD je).bind fun Og=>
 Kv F s_1 x_2 Og
 else
 Kv F s_1 x_2 sD
def Sj(F:Nat)(s_1:aO):Option ((List Int)):=
 (qm F s_1.Kind).bind fun x_2=>
 if x_2.bg=true then
 (qb F (wu64 s_1.bg) 2).bind fun jM=>
 (app 1 ([]:List Int) jM).bind fun SN=>
 Ku F s_1 x_2 SN
 else
 Ku F s_1 x_2 []
def ZW(F:Nat)(s_1:aO):Option ((List Int)×Int):=
 (Wu F s_1).bind fun x_2=>
 if (x_2 != 0)=true then
 some ([],x_2)
 else
 (Sj F s_1).bind fun x_3=>
 (app 1 [gX s_1.Kind,gX s_1.ID,gX (len x_3),0] x_3).bind fun qE=>
 some (qE,0)
def UY(_:Nat)(m_1:aJ)(dU:Int)(FX:List Int):Option (aJ):=
 (app 32 ([]:List eU) m_1.Out).bind fun qE=>
 (app 1 ([]:List Int) FX).bind fun xE=>
 (app 32 qE [(eU.mk dU xE)]).bind fun l8=>
 some ({ m_1 with Out:=l8 })
def qf(F:Nat)(m_1:aJ)(s_2:aO):Option (aJ):=
 (ZW F s_2).bind fun x_3=>
 (UY F m_1 5 x_3.1).bind fun bn=>
 some bn
def qau(_:Nat)(bn:aJ)(xE:List aO):Option (aJ):=
 some ({ bn with aB:=xE })
def UW(F:Nat)(m_1:aJ)(s_2:aO):Option (aJ):=
 (Ww F m_1).bind fun x_3=>
 (qf F x_3.1 ({ s_2 with ID:=x_3.2 })).bind fun bn=>
 (app 96 ([]:List aO) bn.aB).bind fun Xe=>
 (app 96 Xe [{ s_2 with ID:=x_3.2 }]).bind fun Xc=>
 qau F bn Xc
def ZV(F:Nat)(m_1:aJ)(rD:Int)(CU:Int)(CW:Int)(lS:Int):Option (aJ×Int×Int):=
 if (rD == 0)=true then
 some (m_1,0,1)
 else
 (Qf F CU).bind fun dK=>
 (if (!dK)=true then
 some (true)
 else
 (Qf F CW).bind fun gL=>
 some ((!gL))).bind fun yR=>
 (if yR=true then
 some (true)
 else
 (WB F lS).bind fun iG=>
 some ((!iG))).bind fun vU=>
 if vU=true then
 some (m_1,0,5)
 else
 (Wy F m_1).bind fun fM=>
 if ((!fM.2)||(decide ((len m_1.Out)≥64)))=true then
 some (m_1,0,8)
 else
 (UW F m_1 (aO.mk 20 0 rD fM.1 0 CU CW lS 0 (fD.mk 0 0 0 0 0))).bind fun gI=>
 some (gI,fM.1,0)
def ZU(F:Nat)(m_1:aJ)(dU:Int):Option (aJ×Int):=
 (qh F m_1).bind fun x_3=>
 (WG F x_3 dU).bind fun bn=>
 if (bn.2 != 0)=true then
 some (x_3.aD,bn.2)
 else
 (Sr F x_3).bind fun bV=>
 if bV=true then
 some (x_3.aD,8)
 else
 (NV F x_3 bn.1).bind fun dK=>
 some (dK.aD,0)
def qn(F:Nat)(m_1:aJ)(dU:Int):Option (Bool):=
 (Sn F m_1 6 dU).bind fun x_3=>
 some x_3
def Sk(F:Nat)(m_1:aJ)(kG:Int):Option (aJ):=
 (idx m_1.aj kG).bind fun x_3=>
 (qn F m_1 x_3.Local).bind fun bn=>
 if bn=true then
 some m_1
 else
 (UW F m_1 (aO.mk 6 0 0 x_3.Local x_3.Remote 0 0 0 0 (fD.mk 0 0 0 0 0))).bind fun bV=>
 some bV
def ZT(F:Nat)(m_1:aJ)(dU:Int):Option (aJ×Int):=
 (ql F m_1 dU).bind fun x_3=>
 if (decide (x_3<0))=true then
 some (m_1,6)
 else
 (qn F m_1 dU).bind fun bn=>
 if bn=true then
 some (m_1,9)
 else
 if (decide ((len m_1.Out)≥64))=true then
 some (m_1,8)
 else
 (Sk F m_1 x_3).bind fun bV=>
 some (bV,0)
def ZR(_:Nat)(c_1:aS)(Ct:List Int):Option (aS×Int):=
 if c_1.Failed=true then
 some (c_1,9)
 else
 if (decide ((len Ct) > c_1.gQ))=true then
 some (c_1,4)
 else
 if (decide ((len c_1.Out)≥64))=true then
 some (c_1,8)
 else
 (app 24 ([]:List (List Int)) c_1.Out).bind fun sD=>
 (app 1 ([]:List Int) Ct).bind fun qE=>
 (app 24 sD [qE]).bind fun xE=>
 some ({ c_1 with Out:=xE },0)
def qx(_:Nat)(m_1:aJ)(kG:Int)(c_3:aS):Option (aJ):=
 (app 136 ([]:List aS) m_1.aj).bind fun qE=>
 (idx qE kG).bind fun _=>
 (upd qE kG c_3).bind fun l8=>
 some ({ m_1 with aj:=l8 })
def ZQ(F:Nat)(m_1:aJ)(dU:Int)(VN:List Int):Option (aJ×Int):=
 (ql F m_1 dU).bind fun bn=>
 if (decide (bn<0))=true then
 some (m_1,6)
 else
 (qn F m_1 dU).bind fun bV=>
 if bV=true then
 some (m_1,9)
 else
 (idx m_1.aj bn).bind fun dK=>
 (ZR F dK VN).bind fun fA=>
 if (fA.2 != 0)=true then
 some (m_1,fA.2)
 else
 (qx F m_1 bn fA.1).bind fun iN=>
 some (iN,0)
def ZP(F:Nat)(m_1:aJ)(dU:Int)(FX:List Int):Option (aJ×Int):=
 if ((dU != 4)&&(dU != 6))=true then
 some (m_1,5)
 else
 if (decide ((len FX) > 4096))=true then
 some (m_1,4)
 else
 if (decide ((len m_1.Out)≥64))=true then
 some (m_1,8)
 else
 (UY F m_1 dU FX).bind fun bn=>
 some (bn,0)
def q84(_:Nat)(s_1:aO):Option (Bool):=
 some (s_1.Kind == 18)
def qc5(_:Nat):Option (Int):=
 some (-1)
def Pv(F:Nat)(s_1:List aO)(x_2:Int):Option (Out (Int) (Sum (Unit) (Int))):=
 if (decide (x_2<(len s_1)))=true then
 (idx s_1 x_2).bind fun x_3=>
 (q84 F x_3).bind fun bn=>
 if bn=true then
 some (.done (.inr x_2))
 else
 some (.next (aH (x_2+1)))
 else
 some (.done (.inl ()))
def q85(F:Nat)(s_1:List aO):Option (Int):=
 (iter (fun s=>Pv F s_1 s) F (0)).bind fun o=>
 match o with
 | .inl _=>qc5 F
 | .inr u=>some u
def ZO(F:Nat)(s_1:List aO):Option (Bool):=
 (q85 F s_1).bind fun x_2=>
 some (decide (x_2≥0))
def ZN(F:Nat)(m_1:aJ)(u_2:fD):Option (aJ×Int):=
 (qh F m_1).bind fun x_3=>
 if (x_3.aD.eT != 1)=true then
 some (x_3.aD,9)
 else
 (WV F u_2).bind fun bn=>
 if (bn != 0)=true then
 some (x_3.aD,bn)
 else
 (ZO F x_3.aD.aB).bind fun bV=>
 if bV=true then
 some (x_3.aD,20)
 else
 (Sr F x_3).bind fun dK=>
 if dK=true then
 some (x_3.aD,8)
 else
 (U1 F x_3 (aO.mk 18 0 0 0 0 0 0 0 0 u_2)).bind fun fA=>
 some (fA.aD,0)
def ZM(F:Nat)(m_1:aJ)(u_2:fD):Option (aJ×Int):=
 if (m_1.eT != 1)=true then
 some (m_1,9)
 else
 (Wv F u_2).bind fun x_3=>
 if (x_3 != 0)=true then
 some (m_1,x_3)
 else
 (Sn F m_1 18 0).bind fun bn=>
 if bn=true then
 some (m_1,20)
 else
 if (decide ((len m_1.Out)≥64))=true then
 some (m_1,8)
 else
 (UW F m_1 (aO.mk 18 0 0 0 0 0 0 0 0 u_2)).bind fun bV=>
 some (bV,0)
def ZL(F:Nat)(m_1:aJ)(IV:Int)(kg:Int):Option (aJ×Int):=
 (qh F m_1).bind fun bn=>
 if (bn.aD.eT != 0)=true then
 some (bn.aD,9)
 else
 (qo F IV 1 255).bind fun bV=>
 if ((!bV)||((kg != 0)&&(kg != 1)))=true then
 some (bn.aD,5)
 else
 (Sr F bn).bind fun dK=>
 if dK=true then
 some (bn.aD,8)
 else
 (qe F bn (aO.mk 19 IV 0 0 0 0 0 0 kg (fD.mk 0 0 0 0 0))).bind fun fA=>
 some (fA.aD,0)
def ZK(F:Nat)(m_1:aJ)(IV:Int)(kg:Int):Option (aJ×Int):=
 if (m_1.eT != 0)=true then
 some (m_1,9)
 else
 if (((decide (IV<1))||(decide (IV > 255)))||((kg != 0)&&(kg != 1)))=true then
 some (m_1,5)
 else
 if (decide ((len m_1.Out)≥64))=true then
 some (m_1,8)
 else
 (qf F m_1 (aO.mk 19 IV 0 0 0 0 0 0 kg (fD.mk 0 0 0 0 0))).bind fun bn=>
 some (bn,0)
def ZJ(F:Nat)(y5:List Int):Option ((List Int)):=
 (qb F (wu64 (len y5)) 2).bind fun x_2=>
 (app 1 x_2 y5).bind fun sD=>
 some sD
def qav(_:Nat)(c_1:aS)(c_5:aS)(l8:List (List Int)):Option (aS×(List (List Int))):=
 some ({ c_1 with aG:=c_5.aG,Out:=c_5.Out,aN:=c_5.aN },l8)
def Kt(F:Nat)(c_1:aS)(pV:aS)(yI:List (List Int)):Option (Out (aS×(List (List Int))) (aS×(List (List Int)))):=
 if (((!c_1.Failed)&&(decide ((len pV.Out) > 0)))&&(decide (pV.aG > 0)))=true then
 (idx pV.Out 0).bind fun gI=>
 (ZJ F gI).bind fun mG=>
 (sub mG pV.aN (bD (len mG) (aH (pV.aN+c_1.bf)))).bind fun pE=>
 (app 1 ([]:List Int) pE).bind fun xG=>
 (app 24 yI [xG]).bind fun IK=>
 if ((bD (len mG) (aH (pV.aN+c_1.bf))) == (len mG))=true then
 (sub pV.Out 1 (len pV.Out)).bind fun jT=>
 (app 24 ([]:List (List Int)) jT).bind fun KV=>
 some (.next ({ c_1 with aG:=aH (pV.aG - 1),Out:=KV,aN:=0 },IK))
 else
 some (.next ({ c_1 with aG:=aH (pV.aG - 1),Out:=pV.Out,aN:=bD (len mG) (aH (pV.aN+c_1.bf)) },IK))
 else
 some (.done ({ c_1 with aG:=pV.aG,Out:=pV.Out,aN:=pV.aN },yI))
def ZI(F:Nat)(c_1:aS):Option (aS×(List (List Int))):=
 (iter (fun s=>Kt F c_1 s.1 s.2) F (c_1,[])).bind fun o=>
 qav F c_1 o.1 o.2
def qaw(_:Nat)(c_27:aJ):Option (aJ):=
 some c_27
def qax(_:Nat)(oQ:Int)(Ui:aJ):Option (Out (aJ×Int) (aJ)):=
 some (.next (Ui,aH (oQ+1)))
def Y7(_:Nat)(vV:Int)(c_77:aJ):Option (Out (aJ×Int) (aJ)):=
 some (.next (c_77,aH (vV+1)))
def NJ(F:Nat)(pE:(List (List (List Int))))(oQ:Int)(Jh:aJ)(vV:Int):Option (Out (aJ×Int) (aJ)):=
 if (decide (vV<(len pE)))=true then
 (idx pE vV).bind fun QL=>
 if (decide (oQ<(len QL)))=true then
 (idx Jh.aj vV).bind fun x_79=>
 (idx pE vV).bind fun oP=>
 (idx oP oQ).bind fun x_83=>
 (UY F Jh x_79.Remote x_83).bind fun x_84=>
 Y7 F vV x_84
 else
 Y7 F vV Jh
 else
 some (.done (Jh))
def Pt(F:Nat)(pE:(List (List (List Int))))(gN:Int)(Yx:aJ)(oQ:Int):Option (Out (aJ×Int) (aJ)):=
 if (decide (oQ<gN))=true then
 (iter (fun s=>NJ F pE oQ s.1 s.2) F (Yx,0)).bind fun o=>
 qax F oQ o
 else
 some (.done (Yx))
def qay(F:Nat)(jJ:aJ)(pE:(List (List (List Int))))(gN:Int):Option (aJ):=
 (iter (fun s=>Pt F pE gN s.1 s.2) F (jJ,0)).bind fun o=>
 qaw F o
def V4(_:Nat)(Au:(List (List (List Int))))(EF:Int)(yx:Int)(YA:aJ)(Qh:List (List Int)):Option (Out (aJ×(List (List (List Int)))×Int×Int) (aJ×(List (List (List Int)))×Int)):=
 (app 24 Au [Qh]).bind fun Xf=>
 some (.next (YA,Xf,imax EF (len Qh),aH (yx+1)))
def Y6(F:Nat)(A9:aJ)(Au:(List (List (List Int))))(EF:Int)(yx:Int)(Vn:Bool):Option (Out (aJ×(List (List (List Int)))×Int×Int) (aJ×(List (List (List Int)))×Int)):=
 if Vn=true then
 (idx A9.aj yx).bind fun VD=>
 (ZI F VD).bind fun Pk=>
 (qx F A9 yx Pk.1).bind fun VB=>
 V4 F Au EF yx VB Pk.2
 else
 V4 F Au EF yx A9 []
def MH(F:Nat)(A9:aJ)(Au:(List (List (List Int))))(EF:Int)(yx:Int):Option (Out (aJ×(List (List (List Int)))×Int×Int) (aJ×(List (List (List Int)))×Int)):=
 if (decide (yx<(len A9.aj)))=true then
 (idx A9.aj yx).bind fun VA=>
 (qn F A9 VA.Local).bind fun Vz=>
 Y6 F A9 Au EF yx (!Vz)
 else
 some (.done (A9,Au,EF))
def ZH(F:Nat)(m_1:aJ):Option (aJ):=
 (iter (fun s=>MH F s.1 s.2.1 s.2.2.1 s.2.2.2) F (m_1,[],0,0)).bind fun o=>
 qay F o.1 o.2.1 o.2.2
def qaz(_:Nat)(Ja:eU)(nZ:List Int):Option ((List Int)×Int):=
 (app 1 nZ Ja.Payload).bind fun sD=>
 some (sD,0)
def ZG(F:Nat)(Ja:eU):Option ((List Int)×Int):=
 if (Ja.cO == 0)=true then
 some ([],1)
 else
 if (decide ((len Ja.Payload) > 65531))=true then
 some ([],4)
 else
 (qb F (wu64 (len Ja.Payload)) 2).bind fun dK=>
 (qb F (wu64 Ja.cO) 2).bind fun fA=>
 (app 1 dK fA).bind fun oK=>
 qaz F Ja oK
def qb0(_:Nat)(jJ:aJ)(jT:List Int)(eG:Int)(xW:aJ):Option (aJ×jL×Bool):=
 some ({ jJ with Out:=xW.Out,aN:=xW.aN },(jL.mk eG jT),true)
def Y5(F:Nat)(jJ:aJ)(jT:List Int)(eG:Int)(xW:aJ):Option (aJ×jL×Bool):=
 qb0 F jJ jT eG xW
def V3(F:Nat)(jJ:aJ)(gN:List Int×Int)(jT:List Int)(eG:Int):Option (aJ×jL×Bool):=
 if ((bD (len gN.1) (aH (jJ.aN+(bD (imax jJ.Length 27) 251)))) == (len gN.1))=true then
 (sub jJ.Out 1 (len jJ.Out)).bind fun l_24=>
 (app 32 ([]:List eU) l_24).bind fun SN=>
 Y5 F jJ jT eG ({ jJ with Out:=SN,aN:=0 })
 else
 Y5 F jJ jT eG ({ jJ with aN:=bD (len gN.1) (aH (jJ.aN+(bD (imax jJ.Length 27) 251))) })
def VZ(F:Nat)(jJ:aJ):Option (aJ×jL×Bool):=
 if ((len jJ.Out) == 0)=true then
 some (jJ,(jL.mk 0 []),false)
 else
 (idx jJ.Out 0).bind fun iG=>
 (ZG F iG).bind fun gN=>
 (sub gN.1 jJ.aN (bD (len gN.1) (aH (jJ.aN+(bD (imax jJ.Length 27) 251))))).bind fun IK=>
 (app 1 ([]:List Int) IK).bind fun jT=>
 if (jJ.aN == 0)=true then
 V3 F jJ gN jT 2
 else
 V3 F jJ gN jT 1
def ZF(F:Nat)(m_1:aJ):Option (aJ×jL×Bool):=
 if ((len m_1.Out) == 0)=true then
 (ZH F m_1).bind fun yA=>
 VZ F yA
 else
 VZ F m_1
def ZE(F:Nat)(a_1:jL)(dP:jL):Option (Bool):=
 (if (a_1.bF == dP.bF)=true then
 (qk F a_1.Payload dP.Payload).bind fun dK=>
 some (dK)
 else
 some (false)).bind fun qI=>
 some qI
def q89(_:Nat)(p_1:jL):Option (Bool):=
 some ((p_1.bF == 1)&&((len p_1.Payload) == 0))
def qb1(_:Nat)(bn:Int):Option (Int):=
 some bn
def qy(_:Nat)(b_1:List Int)(BD:Int)(bV:Int)(dK:Int):Option (Out (Int×Int) (Int)):=
 if (decide (dK≥0))=true then
 (idx b_1 (aH (BD+dK))).bind fun fA=>
 some (.next (wu64 ((wu64 (bV * 256))+(wu64 fA)),aH (dK - 1)))
 else
 some (.done (bV))
def q9(F:Nat)(b_1:List Int)(BD:Int)(Rs:Int):Option (Int):=
 (iter (fun s=>qy F b_1 BD s.1 s.2) F (0,aH (Rs - 1))).bind fun o=>
 qb1 F o
def ZC(F:Nat)(b_1:List Int):Option (Int×Int):=
 (q9 F b_1 0 2).bind fun x_2=>
 (q9 F b_1 2 2).bind fun x_3=>
 some (aH x_2,fB x_3)
def qb2(_:Nat)(bV:Int):Option (gV×List eU×Int):=
 some ((gV.mk false []),[],bV)
def qc6(_:Nat)(nL:Int)(l8:List eU):Option (gV×List eU×Int):=
 some ((gV.mk false []),l8,nL)
def R7(F:Nat)(b_1:List Int)(nL:Int)(x_3:Int×Int)(bn:Int):Option (gV×List eU×Int):=
 if (bn != 0)=true then
 if (nL != 0)=true then
 qb2 F nL
 else
 qb2 F bn
 else
 if (decide ((aH ((len b_1) - 4))<x_3.1))=true then
 some ((gV.mk true b_1),[],nL)
 else
 (sub b_1 4 (len b_1)).bind fun Fp=>
 qc6 F nL [(eU.mk x_3.2 Fp)]
def ZB(F:Nat)(b_1:List Int)(nL:Int):Option (gV×List eU×Int):=
 if (decide ((len b_1)<4))=true then
 some ((gV.mk true b_1),[],nL)
 else
 (ZC F b_1).bind fun x_3=>
 if (x_3.2 == 0)=true then
 R7 F b_1 nL x_3 1
 else
 if ((decide (x_3.1 > 65531))||(decide ((aH ((len b_1) - 4)) > x_3.1)))=true then
 R7 F b_1 nL x_3 4
 else
 R7 F b_1 nL x_3 0
def VY(F:Nat)(bn:Int)(xE:List Int):Option (gV×List eU×Int):=
 (ZB F xE bn).bind fun dK=>
 some (dK.1,dK.2.1,dK.2.2)
def VX(F:Nat)(iX:jL)(fA:Int):Option (gV×List eU×Int):=
 (app 1 ([]:List Int) iX.Payload).bind fun oK=>
 VY F fA oK
def ZA(F:Nat)(a_1:gV)(iX:jL):Option (gV×List eU×Int):=
 (q89 F iX).bind fun x_3=>
 if x_3=true then
 some (a_1,[],0)
 else
 if (((iX.bF != 2)&&(iX.bF != 1))||((len iX.Payload) == 0))=true then
 some (a_1,[],12)
 else
 if (iX.bF == 2)=true then
 if a_1.On=true then
 VX F iX 13
 else
 VX F iX 0
 else
 if (!a_1.On)=true then
 some ((gV.mk false []),[],13)
 else
 (app 1 ([]:List Int) a_1.Buffer).bind fun yI=>
 (app 1 yI iX.Payload).bind fun KW=>
 VY F 0 KW
def MN(F:Nat)(b_1:List Int)(BD:Int):Option (fD):=
 (q9 F b_1 BD 1).bind fun x_3=>
 (q9 F b_1 (aH (BD+1)) 2).bind fun bn=>
 (q9 F b_1 (aH (BD+3)) 2).bind fun bV=>
 (q9 F b_1 (aH (BD+5)) 2).bind fun dK=>
 (q9 F b_1 (aH (BD+7)) 2).bind fun fA=>
 some (fD.mk (aH x_3) (aH bn) (aH bV) (aH dK) (aH fA))
def Kq(_:Nat)(s_1:aO)(bn:Int)(dK:Int)(iN:Int)(tY:aO)(iG:Int)(gL:Int)(c_22:aO):Option (aO):=
 some ({ tY with Kind:=s_1.Kind,ID:=s_1.ID,bg:=bn,Source:=dK,aT:=iN,au:=iG,Result:=gL,Update:=c_22.Update })
def Ko(F:Nat)(s_1:aO)(dP:List Int)(x_3:sj)(bn:Int)(dK:Int)(iN:Int)(tY:aO)(iG:Int)(gN:Int)(gL:Int):Option (aO):=
 if x_3.Update=true then
 (MN F dP gN).bind fun jZ=>
 Kq F s_1 bn dK iN tY iG gL ({ tY with Kind:=s_1.Kind,ID:=s_1.ID,bg:=bn,Source:=dK,aT:=iN,au:=iG,Result:=gL,Update:=jZ })
 else
 Kq F s_1 bn dK iN tY iG gL ({ s_1 with bg:=bn,Source:=dK,aT:=iN,bA:=tY.bA,bC:=tY.bC,au:=iG,Result:=gL })
def Km(F:Nat)(s_1:aO)(dP:List Int)(x_3:sj)(bn:Int)(dK:Int)(iN:Int)(tY:aO)(iG:Int)(gN:Int):Option (aO):=
 if x_3.Result=true then
 (q9 F dP gN 2).bind fun jM=>
 Ko F s_1 dP x_3 bn dK iN tY iG gN (aH jM)
 else
 Ko F s_1 dP x_3 bn dK iN tY iG gN s_1.Result
def Kl(F:Nat)(s_1:aO)(dP:List Int)(x_3:sj)(bn:Int)(dK:Int)(iN:Int)(tY:aO)(mG:Int):Option (aO):=
 if x_3.au=true then
 (q9 F dP mG 2).bind fun oz=>
 Km F s_1 dP x_3 bn dK iN tY (aH oz) (aH (mG+2))
 else
 Km F s_1 dP x_3 bn dK iN tY s_1.au mG
def Kk(F:Nat)(s_1:aO)(dP:List Int)(x_3:sj)(bn:Int)(dK:Int)(iN:Int)(gW:Int):Option (aO):=
 if x_3.kS=true then
 (q9 F dP gW 2).bind fun yA=>
 (q9 F dP (aH (gW+2)) 2).bind fun sF=>
 Kl F s_1 dP x_3 bn dK iN ({ s_1 with bg:=bn,Source:=dK,aT:=iN,bA:=aH yA,bC:=aH sF }) (aH (gW+4))
 else
 Kl F s_1 dP x_3 bn dK iN ({ s_1 with bg:=bn,Source:=dK,aT:=iN }) gW
def Kj(F:Nat)(s_1:aO)(dP:List Int)(x_3:sj)(bn:Int)(dK:Int)(fA:Int):Option (aO):=
 if x_3.aT=true then
 (q9 F dP fA 2).bind fun qL=>
 Kk F s_1 dP x_3 bn dK (fB qL) (aH (fA+2))
 else
 Kk F s_1 dP x_3 bn dK s_1.aT fA
def Ki(F:Nat)(s_1:aO)(dP:List Int)(x_3:sj)(bn:Int)(bV:Int):Option (aO):=
 if x_3.Source=true then
 (q9 F dP bV 2).bind fun qK=>
 Kj F s_1 dP x_3 bn (fB qK) (aH (bV+2))
 else
 Kj F s_1 dP x_3 bn s_1.Source bV
def qj(F:Nat)(s_1:aO)(dP:List Int):Option (aO):=
 (qm F s_1.Kind).bind fun x_3=>
 if x_3.bg=true then
 (q9 F dP 4 2).bind fun QT=>
 Ki F s_1 dP x_3 (fB QT) 6
 else
 Ki F s_1 dP x_3 s_1.bg 4
def Y4(F:Nat)(b_1:List Int)(EB:aO):Option (aO×Int):=
 (qm F EB.Kind).bind fun bV=>
 if (!bV.Known)=true then
 some ((aO.mk 0 0 0 0 0 0 0 0 0 (fD.mk 0 0 0 0 0)),12)
 else
 if (EB.ID == 0)=true then
 some ((aO.mk 0 0 0 0 0 0 0 0 0 (fD.mk 0 0 0 0 0)),5)
 else
 (Sj F ({ EB with bg:=0,Source:=0,aT:=0,bA:=0,bC:=0,au:=0,Result:=0,Update:=(fD.mk 0 0 0 0 0) })).bind fun dK=>
 (q9 F b_1 2 2).bind fun fA=>
 if ((aH fA) != (len dK))=true then
 some ((aO.mk 0 0 0 0 0 0 0 0 0 (fD.mk 0 0 0 0 0)),2)
 else
 if (decide ((aH ((len b_1) - 4))<(len dK)))=true then
 some ((aO.mk 0 0 0 0 0 0 0 0 0 (fD.mk 0 0 0 0 0)),3)
 else
 if (decide ((aH ((len b_1) - 4)) > (len dK)))=true then
 some ((aO.mk 0 0 0 0 0 0 0 0 0 (fD.mk 0 0 0 0 0)),2)
 else
 (qj F ({ EB with bg:=0,Source:=0,aT:=0,bA:=0,bC:=0,au:=0,Result:=0,Update:=(fD.mk 0 0 0 0 0) }) b_1).bind fun iN=>
 (Wu F iN).bind fun gW=>
 if (gW != 0)=true then
 some ((aO.mk 0 0 0 0 0 0 0 0 0 (fD.mk 0 0 0 0 0)),gW)
 else
 some (iN,0)
def Wn(F:Nat)(b_1:List Int):Option (aO×Int):=
 if (decide ((len b_1)<4))=true then
 some ((aO.mk 0 0 0 0 0 0 0 0 0 (fD.mk 0 0 0 0 0)),3)
 else
 (idx b_1 0).bind fun iH=>
 (idx b_1 1).bind fun fM=>
 Y4 F b_1 (aO.mk (aH iH) (aH fM) 0 0 0 0 0 0 0 (fD.mk 0 0 0 0 0))
def qc7(_:Nat):Option (dX×Bool):=
 some ((dX.mk 0 0 0 0 0),false)
def R6(_:Nat)(m_1:aJ)(rD:Int)(x_3:Int):Option (Out (Int) (Sum (Unit) (dX×Bool))):=
 if (decide (x_3<(len m_1.ay)))=true then
 (idx m_1.ay x_3).bind fun bn=>
 if (bn.bg == rD)=true then
 (idx m_1.ay x_3).bind fun bV=>
 some (.done (.inr (bV,true)))
 else
 some (.next (aH (x_3+1)))
 else
 some (.done (.inl ()))
def q6z(F:Nat)(m_1:aJ)(rD:Int):Option (dX×Bool):=
 (iter (fun s=>R6 F m_1 rD s) F (0)).bind fun o=>
 match o with
 | .inl _=>qc7 F
 | .inr u=>some u
def qc8(_:Nat):Option (Int):=
 some (-1)
def Pq(_:Nat)(m_1:aJ)(dU:Int)(x_3:Int):Option (Out (Int) (Sum (Unit) (Int))):=
 if (decide (x_3<(len m_1.aj)))=true then
 (idx m_1.aj x_3).bind fun bn=>
 if (bn.Remote == dU)=true then
 some (.done (.inr x_3))
 else
 some (.next (aH (x_3+1)))
 else
 some (.done (.inl ()))
def UU(F:Nat)(m_1:aJ)(dU:Int):Option (Int):=
 (iter (fun s=>Pq F m_1 dU s) F (0)).bind fun o=>
 match o with
 | .inl _=>qc8 F
 | .inr u=>some u
def VW(_:Nat)(m_1:aJ)(xE:List aS):Option (aJ):=
 some ({ m_1 with aj:=xE })
def VU(F:Nat)(m_1:aJ)(c_2:aS)(sD:List aS)(qI:Bool):Option (aJ):=
 if (!qI)=true then
 (app 136 sD [c_2]).bind fun l8=>
 VW F m_1 l8
 else
 VW F m_1 sD
def UJ(_:Nat)(m_1:aJ)(gW:Int)(rO:List aS)(JD:Bool):Option (Out ((List aS)×Bool×Int) ((List aS)×Bool)):=
 (idx m_1.aj gW).bind fun gI=>
 (app 136 rO [gI]).bind fun Fq=>
 some (.next (Fq,JD,aH (gW+1)))
def UH(F:Nat)(m_1:aJ)(c_2:aS)(kC:List aS)(yR:Bool)(gW:Int)(JC:Bool):Option (Out ((List aS)×Bool×Int) ((List aS)×Bool)):=
 if JC=true then
 (app 136 kC [c_2]).bind fun xG=>
 UJ F m_1 gW xG true
 else
 UJ F m_1 gW kC yR
def qr(F:Nat)(m_1:aJ)(c_2:aS)(kC:List aS)(yR:Bool)(gW:Int):Option (Out ((List aS)×Bool×Int) ((List aS)×Bool)):=
 if (decide (gW<(len m_1.aj)))=true then
 if (!yR)=true then
 (idx m_1.aj gW).bind fun jh=>
 UH F m_1 c_2 kC yR gW (decide (jh.Local > c_2.Local))
 else
 UH F m_1 c_2 kC yR gW false
 else
 some (.done (kC,yR))
def Wt(F:Nat)(m_1:aJ)(c_2:aS):Option (aJ):=
 (iter (fun s=>qr F m_1 c_2 s.1 s.2.1 s.2.2) F ([],false,0)).bind fun o=>
 VU F m_1 c_2 o.1 o.2
def NI(F:Nat)(m_1:aJ)(s_2:aO)(x_3:dX×Bool)(bn:Int×Bool)(bV:Int):Option (aJ×List bM):=
 if (bV != 0)=true then
 (qf F m_1 ({ s_2 with Kind:=21,bg:=0,Source:=0,aT:=0,bA:=0,bC:=0,au:=0,Result:=bV,Update:=(fD.mk 0 0 0 0 0) })).bind fun dK=>
 some (dK,[])
 else
 (Wt F m_1 (aS.mk bn.1 s_2.Source s_2.bg x_3.1.bA x_3.1.bC s_2.bA s_2.bC s_2.au x_3.1.au x_3.1.au [] 0 [] (-1) false)).bind fun fA=>
 (qf F fA (aO.mk 21 s_2.ID 0 bn.1 0 x_3.1.bA x_3.1.bC x_3.1.au 0 (fD.mk 0 0 0 0 0))).bind fun iN=>
 some (iN,[(bM.mk 2 bn.1 [] 0 (fD.mk 0 0 0 0 0) 0)])
def Zz(F:Nat)(m_1:aJ)(s_2:aO):Option (aJ×List bM):=
 (q6z F m_1 s_2.bg).bind fun x_3=>
 (Wy F m_1).bind fun bn=>
 if (!x_3.2)=true then
 NI F m_1 s_2 x_3 bn 2
 else
 if (decide (m_1.Level<x_3.1.Level))=true then
 NI F m_1 s_2 x_3 bn 5
 else
 if (!bn.2)=true then
 NI F m_1 s_2 x_3 bn 4
 else
 (UU F m_1 s_2.Source).bind fun gW=>
 if (decide (gW≥0))=true then
 NI F m_1 s_2 x_3 bn 9
 else
 NI F m_1 s_2 x_3 bn 0
def qb3(_:Nat)(m_1:aJ)(sD:List aS):Option (aJ):=
 some ({ m_1 with aj:=sD })
def Qe(F:Nat)(m_1:aJ)(kG:Int):Option (aJ):=
 (sub m_1.aj 0 kG).bind fun l8=>
 (sub m_1.aj (aH (kG+1)) (len m_1.aj)).bind fun kC=>
 (app 136 ([]:List aS) l8).bind fun oK=>
 (app 136 oK kC).bind fun Fp=>
 qb3 F m_1 Fp
def qc9(_:Nat)(s_2:aO)(FU:aJ):Option (aJ×List bM):=
 some (FU,[(bM.mk 4 s_2.aT [] 0 (fD.mk 0 0 0 0 0) 0)])
def qca(F:Nat)(s_2:aO)(FU:aJ):Option (aJ×List bM):=
 qc9 F s_2 FU
def Y3(F:Nat)(m_1:aJ)(s_2:aO)(x_3:Int)(qI:Bool):Option (aJ×List bM):=
 if qI=true then
 (qf F m_1 ({ s_2 with Kind:=1,bg:=0,Source:=0,aT:=0,bA:=0,bC:=0,au:=0,Result:=2,Update:=(fD.mk 0 0 0 0 0) })).bind fun bV=>
 some (bV,[])
 else
 (Qe F m_1 x_3).bind fun Vx=>
 (qf F Vx ({ s_2 with Kind:=7,bg:=0,bA:=0,bC:=0,au:=0,Result:=0,Update:=(fD.mk 0 0 0 0 0) })).bind fun Vw=>
 qca F s_2 Vw
def Zy(F:Nat)(m_1:aJ)(s_2:aO):Option (aJ×List bM):=
 (ql F m_1 s_2.aT).bind fun x_3=>
 if (decide (x_3<0))=true then
 Y3 F m_1 s_2 x_3 true
 else
 (idx m_1.aj x_3).bind fun Vu=>
 Y3 F m_1 s_2 x_3 (Vu.Remote != s_2.Source)
def q4y(_:Nat)(c_1:aS)(kX:Int):Option (aS×Int):=
 if c_1.Failed=true then
 some (c_1,9)
 else
 if ((decide (kX<1))||(decide (kX > (aH (65535 - c_1.aG)))))=true then
 if (decide (kX<1))=true then
 some ({ c_1 with Failed:=true },5)
 else
 some ({ c_1 with Failed:=true },19)
 else
 some ({ c_1 with aG:=aH (c_1.aG+kX) },0)
def qb4(F:Nat)(m_1:aJ)(x_3:Int)(DI:aS)(iq:Int):Option (aJ):=
 (qx F m_1 x_3 DI).bind fun je=>
 if (iq != 0)=true then
 (Sk F je x_3).bind fun jZ=>
 some jZ
 else
 some je
def Y2(F:Nat)(m_1:aJ)(s_2:aO)(x_3:Int)(qI:Bool):Option (aJ):=
 if qI=true then
 some m_1
 else
 (idx m_1.aj x_3).bind fun jM=>
 (q4y F jM s_2.au).bind fun Ph=>
 qb4 F m_1 x_3 Ph.1 Ph.2
def Zx(F:Nat)(m_1:aJ)(s_2:aO):Option (aJ):=
 (UU F m_1 s_2.Source).bind fun x_3=>
 if (decide (x_3<0))=true then
 Y2 F m_1 s_2 x_3 true
 else
 (idx m_1.aj x_3).bind fun Ri=>
 (qn F m_1 Ri.Local).bind fun Rh=>
 Y2 F m_1 s_2 x_3 Rh
def Zw(_:Nat)(dY:aO)(eP:aO):Option (Bool):=
 if (dY.ID != eP.ID)=true then
 some false
 else
 if (eP.Kind == 1)=true then
 some (((dY.Kind == 20)||(dY.Kind == 6))||(dY.Kind == 18))
 else
 if (dY.Kind == 20)=true then
 some (eP.Kind == 21)
 else
 if (dY.Kind == 6)=true then
 some (((eP.Kind == 7)&&(eP.Source == dY.Source))&&(eP.aT == dY.aT))
 else
 if (dY.Kind == 18)=true then
 some (eP.Kind == 19)
 else
 some false
def qcb(_:Nat)(m_1:aJ):Option (aJ×aO×Bool):=
 some (m_1,(aO.mk 0 0 0 0 0 0 0 0 0 (fD.mk 0 0 0 0 0)),false)
def qb5(_:Nat)(m_1:aJ)(bV:aO)(l8:List aO):Option (Out (Int) (Sum (Unit) (aJ×aO×Bool))):=
 some (.done (.inr ({ m_1 with aB:=l8 },bV,true)))
def qb6(F:Nat)(m_1:aJ)(bV:aO)(l8:List aO):Option (Out (Int) (Sum (Unit) (aJ×aO×Bool))):=
 qb5 F m_1 bV l8
def Y1(F:Nat)(m_1:aJ)(x_3:Int)(qI:Bool):Option (Out (Int) (Sum (Unit) (aJ×aO×Bool))):=
 if qI=true then
 (idx m_1.aB x_3).bind fun bV=>
 (sub m_1.aB 0 x_3).bind fun yI=>
 (sub m_1.aB (aH (x_3+1)) (len m_1.aB)).bind fun KW=>
 (app 96 ([]:List aO) yI).bind fun Fq=>
 (app 96 Fq KW).bind fun pE=>
 qb6 F m_1 bV pE
 else
 some (.next (aH (x_3+1)))
def MG(F:Nat)(m_1:aJ)(s_2:aO)(x_3:Int):Option (Out (Int) (Sum (Unit) (aJ×aO×Bool))):=
 if (decide (x_3<(len m_1.aB)))=true then
 (idx m_1.aB x_3).bind fun gN=>
 (Zw F gN s_2).bind fun eG=>
 Y1 F m_1 x_3 eG
 else
 some (.done (.inl ()))
def UO(F:Nat)(m_1:aJ)(s_2:aO):Option (aJ×aO×Bool):=
 (iter (fun s=>MG F m_1 s_2 s) F (0)).bind fun o=>
 match o with
 | .inl _=>qcb F m_1
 | .inr u=>some u
def qcc(_:Nat)(m_1:aJ)(gF:aO)(bn:Int):Option (aJ×List bM):=
 some (m_1,[(bM.mk 5 gF.Source [] bn (fD.mk 0 0 0 0 0) 0)])
def qcd(_:Nat)(gF:aO)(JG:aJ):Option (aJ×List bM):=
 some (JG,[(bM.mk 2 gF.Source [] 0 (fD.mk 0 0 0 0 0) 0)])
def UG(F:Nat)(m_1:aJ)(gF:aO)(Js:aO)(bn:Int):Option (aJ×List bM):=
 if (bn != 0)=true then
 qcc F m_1 gF bn
 else
 (Wt F m_1 (aS.mk gF.Source Js.Source gF.bg gF.bA gF.bC Js.bA Js.bC Js.au gF.au gF.au [] 0 [] (-1) false)).bind fun JG=>
 qcd F gF JG
def q4z(F:Nat)(m_1:aJ)(gF:aO)(Js:aO):Option (aJ×List bM):=
 if (Js.Kind == 1)=true then
 UG F m_1 gF Js 1
 else
 (if (Js.Result == 0)=true then
 (UU F m_1 Js.Source).bind fun Rf=>
 some (decide (Rf≥0))
 else
 some (false)).bind fun QI=>
 if QI=true then
 UG F m_1 gF Js 9
 else
 UG F m_1 gF Js Js.Result
def qb7(_:Nat)(iC:aJ):Option (aJ×List bM):=
 some (iC,[])
def qce(_:Nat)(m_1:aJ)(x_3:aO×Int):Option (aJ×List bM):=
 some (m_1,[(bM.mk 6 0 [] 0 x_3.1.Update x_3.1.ID)])
def Y0(_:Nat)(fu:aJ×aO×Bool)(Yu:aJ):Option (aJ×List bM):=
 some (Yu,[(bM.mk 4 fu.2.1.Source [] 0 (fD.mk 0 0 0 0 0) 0)])
def qcf(_:Nat)(x_3:aO×Int)(fu:aJ×aO×Bool)(EH:Int):Option (aJ×List bM):=
 some (fu.1,[(bM.mk 7 0 [] EH (fD.mk 0 0 0 0 0) x_3.1.ID)])
def VT(F:Nat)(x_3:aO×Int)(fu:aJ×aO×Bool)(EH:Int):Option (aJ×List bM):=
 qcf F x_3 fu EH
def UN(F:Nat)(m_1:aJ)(dP:List Int):Option (aJ×List bM):=
 (Wn F dP).bind fun x_3=>
 if (x_3.2 != 0)=true then
 (if (decide ((len dP)≥2))=true then
 (idx dP 1).bind fun sF=>
 some ((sF != 0))
 else
 some (false)).bind fun QD=>
 (if QD=true then
 (idx dP 0).bind fun oz=>
 some (((aH oz) != 1))
 else
 some (false)).bind fun z_19=>
 if z_19=true then
 (idx dP 1).bind fun gH=>
 (qf F m_1 (aO.mk 1 (aH gH) 0 0 0 0 0 0 0 (fD.mk 0 0 0 0 0))).bind fun jZ=>
 qb7 F jZ
 else
 qb7 F m_1
 else
 if (x_3.1.Kind == 20)=true then
 (Zz F m_1 x_3.1).bind fun qL=>
 some (qL.1,qL.2)
 else
 if (x_3.1.Kind == 6)=true then
 (Zy F m_1 x_3.1).bind fun qK=>
 some (qK.1,qK.2)
 else
 if (x_3.1.Kind == 18)=true then
 if (m_1.eT == 0)=true then
 qce F m_1 x_3
 else
 (qf F m_1 ({ x_3.1 with Kind:=1,bg:=0,Source:=0,aT:=0,bA:=0,bC:=0,au:=0,Result:=0,Update:=(fD.mk 0 0 0 0 0) })).bind fun JE=>
 some (JE,[])
 else
 if (x_3.1.Kind == 22)=true then
 (Zx F m_1 x_3.1).bind fun Vr=>
 some (Vr,[])
 else
 (UO F m_1 x_3.1).bind fun fu=>
 if (!fu.2.2)=true then
 some (fu.1,[])
 else
 if (fu.2.1.Kind == 20)=true then
 (q4z F fu.1 fu.2.1 x_3.1).bind fun BN=>
 some (BN.1,BN.2)
 else
 if (fu.2.1.Kind == 6)=true then
 (ql F fu.1 fu.2.1.Source).bind fun uh=>
 if (decide (uh<0))=true then
 some (fu.1,[])
 else
 (Qe F fu.1 uh).bind fun vW=>
 Y0 F fu vW
 else
 if (x_3.1.Kind == 1)=true then
 VT F x_3 fu 1
 else
 VT F x_3 fu x_3.1.Result
def Zv(F:Nat)(c_1:aS)(dP:List Int):Option (Int):=
 if (c_1.aC == 0)=true then
 some 19
 else
 if (decide ((len dP) > c_1.bC))=true then
 some 4
 else
 if (c_1.Want == (-1))=true then
 if (decide ((len dP)<2))=true then
 some 3
 else
 (q9 F dP 0 2).bind fun x_3=>
 if ((decide ((aH x_3) > c_1.bA))||(decide ((aH ((len dP) - 2)) > (aH x_3))))=true then
 some 4
 else
 some 0
 else
 if ((len dP) == 0)=true then
 some 3
 else
 if (decide ((aH ((len c_1.In)+(len dP))) > c_1.Want))=true then
 some 4
 else
 some 0
def VR(_:Nat)(c_1:aS)(qE:List Int)(bV:Int):Option (aS×(List (List Int))×Int):=
 (app 1 ([]:List Int) c_1.In).bind fun l8=>
 (app 1 l8 qE).bind fun kC=>
 if (decide ((len kC)<bV))=true then
 some ({ c_1 with aC:=aH (c_1.aC - 1),In:=kC,Want:=bV },[],0)
 else
 some ({ c_1 with aC:=aH (c_1.aC - 1),In:=[],Want:=(-1) },[kC],0)
def Zu(F:Nat)(c_1:aS)(dP:List Int):Option (aS×(List (List Int))×Int):=
 if c_1.Failed=true then
 some (c_1,[],9)
 else
 (Zv F c_1 dP).bind fun x_3=>
 if (x_3 != 0)=true then
 some ({ c_1 with Failed:=true },[],x_3)
 else
 if (c_1.Want == (-1))=true then
 (q9 F dP 0 2).bind fun iN=>
 (sub dP 2 (len dP)).bind fun Fp=>
 VR F c_1 Fp (aH iN)
 else
 VR F c_1 dP c_1.Want
def Zt(_:Nat)(c_1:aS)(kX:Int):Option (aS×Int):=
 if c_1.Failed=true then
 some (c_1,9)
 else
 if (decide (kX<1))=true then
 some (c_1,5)
 else
 if (decide (kX > (aH (65535 - c_1.aC))))=true then
 some (c_1,19)
 else
 some ({ c_1 with aC:=aH (c_1.aC+kX) },0)
def qb8(_:Nat)(oK:List bM)(DI:aJ):Option (aJ×List bM):=
 some (DI,oK)
def R5(F:Nat)(kG:Int)(bV:aS×(List (List Int))×Int)(dK:aJ)(oK:List bM):Option (aJ×List bM):=
 if ((decide ((aH (bV.1.Given - bV.1.aC)) > 0))&&(decide ((aH (2 * bV.1.aC))≤bV.1.Given)))=true then
 (Zt F bV.1 (aH (bV.1.Given - bV.1.aC))).bind fun iq=>
 (qx F dK kG iq.1).bind fun je=>
 (Ww F je).bind fun jZ=>
 (qf F jZ.1 (aO.mk 22 jZ.2 0 iq.1.Local 0 0 0 (aH (bV.1.Given - bV.1.aC)) 0 (fD.mk 0 0 0 0 0))).bind fun jM=>
 qb8 F oK jM
 else
 qb8 F oK dK
def Zr(F:Nat)(m_1:aJ)(kG:Int)(FX:List Int):Option (aJ×List bM):=
 (idx m_1.aj kG).bind fun bn=>
 (Zu F bn FX).bind fun bV=>
 (qx F m_1 kG bV.1).bind fun dK=>
 if (bV.2.2 != 0)=true then
 (Sk F dK kG).bind fun fA=>
 some (fA,[])
 else
 if (decide ((len bV.2.1) > 0))=true then
 (idx bV.2.1 0).bind fun oz=>
 (app 96 ([]:List bM) [(bM.mk 3 bV.1.Local oz 0 (fD.mk 0 0 0 0 0) 0)]).bind fun KU=>
 R5 F kG bV dK KU
 else
 R5 F kG bV dK []
def qcg(_:Nat)(m_1:aJ)(x_3:gV×List eU×Int)(bn:eU):Option (aJ×List bM):=
 some ({ m_1 with aA:=x_3.1 },[(bM.mk 1 bn.cO bn.Payload 0 (fD.mk 0 0 0 0 0) 0)])
def UF(F:Nat)(m_1:aJ)(x_3:gV×List eU×Int)(bn:eU)(ED:Bool):Option (aJ×List bM):=
 if ED=true then
 qcg F m_1 x_3 bn
 else
 if (bn.cO == 5)=true then
 (UN F ({ m_1 with aA:=x_3.1 }) bn.Payload).bind fun Pg=>
 some (Pg.1,Pg.2)
 else
 (ql F ({ m_1 with aA:=x_3.1 }) bn.cO).bind fun Pf=>
 (if (decide (Pf<0))=true then
 some (true)
 else
 (qn F ({ m_1 with aA:=x_3.1 }) bn.cO).bind fun Vs=>
 some (Vs)).bind fun Vl=>
 if Vl=true then
 some ({ m_1 with aA:=x_3.1 },[])
 else
 (Zr F ({ m_1 with aA:=x_3.1 }) Pf bn.Payload).bind fun Pe=>
 some (Pe.1,Pe.2)
def Zq(F:Nat)(m_1:aJ)(iX:jL):Option (aJ×List bM):=
 (ZA F m_1.aA iX).bind fun x_3=>
 if ((len x_3.2.1) == 0)=true then
 some ({ m_1 with aA:=x_3.1 },[])
 else
 (idx x_3.2.1 0).bind fun bn=>
 if (bn.cO == 4)=true then
 UF F m_1 x_3 bn (bn.cO == 4)
 else
 UF F m_1 x_3 bn (bn.cO == 6)
def qch(_:Nat):Option (Bool):=
 some true
def qb9(F:Nat)(x_3:Int)(nP:bM)(yM:bM):Option (Out (Int) (Sum (Unit) (Bool))):=
 (if (((nP.Kind != yM.Kind)||(nP.cO != yM.cO))||(nP.Result != yM.Result))=true then
 some (true)
 else
 some ((!((nP.Update.aU == yM.Update.aU)&&((nP.Update.aL == yM.Update.aL)&&((nP.Update.Interval == yM.Update.Interval)&&((nP.Update.aV == yM.Update.aV)&&(nP.Update.Timeout == yM.Update.Timeout)))))))).bind fun z_27=>
 (if (z_27||(nP.ID != yM.ID))=true then
 some (true)
 else
 (qk F nP.Data yM.Data).bind fun MR=>
 some ((!MR))).bind fun z_29=>
 if z_29=true then
 some (.done (.inr false))
 else
 some (.next (aH (x_3+1)))
def Pp(F:Nat)(a_1:List bM)(dP:List bM)(x_3:Int):Option (Out (Int) (Sum (Unit) (Bool))):=
 if (decide (x_3<(len a_1)))=true then
 (idx a_1 x_3).bind fun qJ=>
 (idx dP x_3).bind fun mF=>
 qb9 F x_3 qJ mF
 else
 some (.done (.inl ()))
def Zp(F:Nat)(a_1:List bM)(dP:List bM):Option (Bool):=
 if ((len a_1) != (len dP))=true then
 some false
 else
 (iter (fun s=>Pp F a_1 dP s) F (0)).bind fun o=>
 match o with
 | .inl _=>qch F
 | .inr u=>some u
def Zo(F:Nat)(m_1:aJ)(Aq:Int):Option (aJ):=
 (qh F m_1).bind fun x_3=>
 some ({ x_3.aD with Level:=imax 0 (bD Aq 2) })
def Zn(_:Nat)(m_1:aJ)(Aq:Int):Option (aJ):=
 some ({ m_1 with Level:=bD (imax Aq 0) 2 })
def qba(_:Nat)(bn:aJ×Int×Int)(bV:aJ×Int×Int):Option (aJ×aJ×Bool):=
 some (bn.1,bV.1,((bn.2.2 == bV.2.2)&&(bn.2.1 == bV.2.1)))
def qbb(_:Nat)(iN:aJ×Int)(gW:aJ×Int):Option (aJ×aJ×Bool):=
 some (iN.1,gW.1,(iN.2 == gW.2))
def qbc(_:Nat)(gI:aJ×Int)(mG:aJ×Int):Option (aJ×aJ×Bool):=
 some (gI.1,mG.1,(gI.2 == mG.2))
def qbd(_:Nat)(gL:aJ×Int)(eZ:aJ×Int):Option (aJ×aJ×Bool):=
 some (gL.1,eZ.1,(gL.2 == eZ.2))
def qbe(_:Nat)(gH:aJ×Int)(iq:aJ×Int):Option (aJ×aJ×Bool):=
 some (gH.1,iq.1,(gH.2 == iq.2))
def qbf(_:Nat)(jM:aJ×Int)(oz:aJ×Int):Option (aJ×aJ×Bool):=
 some (jM.1,oz.1,(jM.2 == oz.2))
def qbg(_:Nat)(qL:aJ×jL×Bool)(qK:aJ×jL×Bool)(z_30:Bool):Option (aJ×aJ×Bool):=
 some (qL.1,qK.1,z_30)
def qci(_:Nat)(kT:aJ×List bM)(jC:aJ×List bM)(z_37:Bool):Option (aJ×aJ×Bool):=
 some (kT.1,jC.1,z_37)
def qcj(_:Nat)(Ui:aJ)(Jh:aJ):Option (aJ×aJ×Bool):=
 some (Ui,Jh,true)
def qck(_:Nat)(m_1:aJ)(kX:aJ)(x_3:DW):Option (aJ×aJ×Bool):=
 some ({ m_1 with Length:=x_3.Level },{ kX with Length:=x_3.Level },true)
def qcl(F:Nat)(m_1:aJ)(kX:aJ)(x_3:DW):Option (aJ×aJ×Bool):=
 qck F m_1 kX x_3
def q2o(F:Nat)(m_1:aJ)(kX:aJ)(x_3:DW):Option (aJ×aJ×Bool):=
 if (x_3.Call == 0)=true then
 (WQ F m_1 x_3.bg x_3.bA x_3.bC x_3.au).bind fun bn=>
 (ZV F kX x_3.bg x_3.bA x_3.bC x_3.au).bind fun bV=>
 qba F bn bV
 else
 if (x_3.Call == 1)=true then
 (ZU F m_1 x_3.cO).bind fun iN=>
 (ZT F kX x_3.cO).bind fun gW=>
 qbb F iN gW
 else
 if (x_3.Call == 2)=true then
 (WE F m_1 x_3.cO x_3.Bytes).bind fun gI=>
 (ZQ F kX x_3.cO x_3.Bytes).bind fun mG=>
 qbc F gI mG
 else
 if (x_3.Call == 3)=true then
 (WH F m_1 x_3.cO x_3.Bytes).bind fun gL=>
 (ZP F kX x_3.cO x_3.Bytes).bind fun eZ=>
 qbd F gL eZ
 else
 if (x_3.Call == 4)=true then
 (ZN F m_1 x_3.Update).bind fun gH=>
 (ZM F kX x_3.Update).bind fun iq=>
 qbe F gH iq
 else
 if (x_3.Call == 5)=true then
 (ZL F m_1 x_3.ID x_3.Result).bind fun jM=>
 (ZK F kX x_3.ID x_3.Result).bind fun oz=>
 qbf F jM oz
 else
 if (x_3.Call == 6)=true then
 (q1z F m_1).bind fun qL=>
 (ZF F kX).bind fun qK=>
 if (qL.2.2 == qK.2.2)=true then
 (ZE F qL.2.1 qK.2.1).bind fun mF=>
 qbg F qL qK mF
 else
 qbg F qL qK false
 else
 if (x_3.Call == 7)=true then
 (q24 F m_1 x_3.dB).bind fun kT=>
 (Zq F kX x_3.dB).bind fun jC=>
 (Zp F kT.2 jC.2).bind fun oQ=>
 qci F kT jC oQ
 else
 if (x_3.Call == 8)=true then
 (Zo F m_1 x_3.Level).bind fun x_67=>
 (Zn F kX x_3.Level).bind fun x_68=>
 qcj F x_67 x_68
 else
 qcl F m_1 kX x_3
def qbh(F:Nat):Option (Bool):=
 (U5 F).bind fun gW=>
 some gW
def qbi(F:Nat)(mF:Int)(Yw:aJ)(pU:aJ)(z_59:Bool):Option (Out (aJ×aJ×Int) (Sum (Unit) (Bool))):=
 (if (!z_59)=true then
 some (true)
 else
 (Wz F Yw pU).bind fun vV=>
 some ((!vV))).bind fun z_61=>
 if z_61=true then
 some (.done (.inr false))
 else
 some (.next (Yw,pU,aH (mF+1)))
def Po(F:Nat)(x_1:DV)(xW:aJ)(tX:aJ)(mF:Int):Option (Out (aJ×aJ×Int) (Sum (Unit) (Bool))):=
 if (decide (mF<(len x_1.Steps)))=true then
 (idx x_1.Steps mF).bind fun x_66=>
 (q2o F xW tX x_66).bind fun JH=>
 qbi F mF JH.1 JH.2.1 JH.2.2
 else
 some (.done (.inl ()))
def YZ(F:Nat)(x_1:DV)(x_2:Int):Option (Bool):=
 if (((decide ((len x_1.Steps) > 150))||(decide ((len x_1.ay) > 20)))||(decide (x_2 > 8192)))=true then
 (U5 F).bind fun x_3=>
 some x_3
 else
 (U4 F x_1.eT x_1.ay).bind fun bn=>
 (Z8 F x_1.eT x_1.ay).bind fun bV=>
 (if (bn.2 != bV.2)=true then
 some (true)
 else
 (Wz F bn.1 bV.1).bind fun Q8=>
 some ((!Q8))).bind fun Vm=>
 if Vm=true then
 some false
 else
 if (bn.2 != 0)=true then
 (U5 F).bind fun iN=>
 some iN
 else
 (iter (fun s=>Po F x_1 s.1 s.2.1 s.2.2) F (bn.1,bV.1,0)).bind fun o=>
 match o with
 | .inl _=>qbh F
 | .inr u=>some u
def MF(F:Nat)(x_1:DV)(JI:Int)(oU:Int):Option (Out (Int×Int) (Sum (Int) (Bool))):=
 if ((decide (oU<(len x_1.Steps)))&&(decide (oU<150)))=true then
 (idx x_1.Steps oU).bind fun Q7=>
 (if (decide ((len Q7.Bytes) > 8192))=true then
 some (true)
 else
 (idx x_1.Steps oU).bind fun QY=>
 some (decide ((len QY.dB.Payload) > 8192))).bind fun QF=>
 if QF=true then
 (U5 F).bind fun Q6=>
 some (.done (.inr Q6))
 else
 (idx x_1.Steps oU).bind fun Q5=>
 (idx x_1.Steps oU).bind fun QZ=>
 some (.next (aH (JI+(aH ((len Q5.Bytes)+(len QZ.dB.Payload)))),aH (oU+1)))
 else
 some (.done (.inl (JI)))
def Wm(F:Nat)(x_1:DV):Option (Bool):=
 (iter (fun s=>MF F x_1 s.1 s.2) F (0,0)).bind fun o=>
 match o with
 | .inl u=>YZ F x_1 u
 | .inr u=>some u
end V
end Go.Proofs.YtbgfhaahhdnogaaGreat
