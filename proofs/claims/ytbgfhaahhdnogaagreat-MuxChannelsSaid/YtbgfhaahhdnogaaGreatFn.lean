/- Pure twins of the Go functions, wn by program. -/
import Derived.Test.YtbgfhaahhdnogaaGreatPure
namespace Go.Proofs.YtbgfhaahhdnogaaGreat
namespace V
structure fI where
 bT:Int
 dh:Int
 cZ:Int
 aA:Int
 bh:Int
structure jP where
 bQ:Int
 aZ:Int
 aE:Int
 aO:Int
 bc:Int
structure F7 where
 bj:Int
 ae:Int
 N:Int
 bT:Int
 aY:Int
 dh:Int
 cZ:Int
 aA:Int
 ax:List Int
 ao:jP
structure vH where
 ak:(List fI×List fI)
 bL:(Int×Int)
 eZ:List F7
structure aM where
 ap:Int
 al:Int
 bT:Int
 dh:Int
 cZ:Int
 gu:Int
 bJ:Int
 aG:Int
 aC:Int
 bd:Int
 Out:(List (List Int))
 aS:Int
 In:List Int
 bi:Int
 ba:Bool
structure aQ where
 ae:Int
 ID:Int
 bT:Int
 ab:Int
 bK:Int
 dh:Int
 cZ:Int
 aA:Int
 Result:Int
 ao:jP
structure kV where
 On:Bool
 aq:List Int
structure bq where
 aY:Int
 am:List Int
structure aJ where
 jm:Int
 bh:Int
 ak:List fI
 aj:List aM
 aB:List aQ
 bV:Int
 ay:kV
 Out:List bq
 aS:Int
 Length:Int
structure iw where
 ae:Int
 aY:Int
 bk:List Int
 Result:Int
 ao:jP
 ID:Int
structure bO where
 aD:aJ
 ar:List iw
structure xM where
 n:Int
 br:Int
 bp:Int
structure uP where
 bo:Int
 Value:Int
structure eY where
 dV:Int
 am:List Int
structure bA where
 ai:(aJ×aJ)
 aP:(List eY×List eY)
 au:(Nat->List (List Int))
 aw:(List bq×List bq)
 ah:(Nat->Bool)
 params:Int
 data:Bool
 frame:Bool
 answer:Bool
def q6e(_:Nat)(t_1:vH)(x_2:Int):Option Bool:=
 some ((((decide (len t_1.eZ<=60))&&(decide (x_2<=4096)))&&(decide (len t_1.ak.1<=10)))&&(decide (len t_1.ak.2<=10)))
def qw(_:Nat)(t_1:vH)(x_3 cu:Int):Option (Out (Int×Int) (Sum Int Bool)):=
 if ((decide (cu<len t_1.eZ))&&(decide (cu<60)))=true then
 (idx t_1.eZ cu).bind fun fO=>
 if (decide (len fO.ax>4096))=true then
 some (.done (.inr false))
 else
 (idx t_1.eZ cu).bind fun jr=>
 some (.next (aL (x_3+len jr.ax),aL (cu+1)))
 else
 some (.done (.inl x_3))
def q3z(F:Nat)(t_1:vH):Option Bool:=
 (iter (fun s=>qw F t_1 s.1 s.2) F (0,0)).bind fun o=>
 match o with
 | .inl u=>q6e F t_1 u
 | .inr u=>some u
def q56(_:Nat)(o_1 nP:fI):Option (Bool×fI):=
 some ((o_1.bT==nP.bT),nP)
def q8d(_:Nat)(c_8:fI):Option (Int×fI):=
 some ((-1),c_8)
def ZU(F:Nat)(s_1:List fI)(QJ:fI)(rV:Int):Option (Out (fI×Int) (Sum fI (Int×fI))):=
 if (decide (rV<len s_1))=true then
 (idx s_1 rV).bind fun qG=>
 (q56 F qG QJ).bind fun iP=>
 if iP.1=true then
 some (.done (.inr (rV,iP.2)))
 else
 some (.next (iP.2,aL (rV+1)))
 else
 some (.done (.inl QJ))
def q40(F:Nat)(s_1:List fI)(c_2:fI):Option (Int×fI):=
 (iter (fun s=>ZU F s_1 s.1 s.2) F (c_2,0)).bind fun o=>
 match o with
 | .inl u=>q8d F u
 | .inr u=>some u
def q41(F:Nat)(s_1:List fI)(c_2:fI):Option (Bool×fI):=
 (q40 F s_1 c_2).bind fun x_3=>
 some (decide (x_3.1>=0),x_3.2)
def qn(_:Nat)(Lj afd acD:Int):Option Bool:=
 some ((decide (Lj>=afd))&&(decide (Lj<=acD)))
def qx(F:Nat)(Lj:Int):Option Bool:=
 (qn F Lj 23 4096).bind fun x_2=>
 some x_2
def q24(_:Nat)(s_1:List fI):Option (List fI):=
 (app 40 ([]:List fI) s_1).bind fun uN=>
 some uN
def q6f(F:Nat)(ni:Int)(bX:List fI):Option (aJ×Int):=
 (q24 F bX).bind fun x_3=>
 some (aJ.mk ni 0 x_3 [] [] 1 (kV.mk false []) [] 0 27,0)
def ZT(F:Nat)(bX:List fI)(cu:Int):Option (Out Int (Sum Unit (aJ×Int))):=
 if (decide (cu<len bX))=true then
 (idx bX cu).bind fun fO=>
 (sub bX 0 cu).bind fun Qk=>
 (q41 F Qk fO).bind fun jq=>
 if (jq.2.bT==0)=true then
 some (.done (.inr (aJ.mk 0 0 [] [] [] 0 (kV.mk false []) [] 0 0,1)))
 else
 if jq.1=true then
 some (.done (.inr (aJ.mk 0 0 [] [] [] 0 (kV.mk false []) [] 0 0,7)))
 else
 (qx F jq.2.dh).bind fun EO=>
 (if (!EO)=true then
 some true
 else
 (qx F jq.2.cZ).bind fun kF=>
 some (!kF)).bind fun Lu=>
 (if Lu=true then
 some true
 else
 (qn F jq.2.aA 0 65535).bind fun iK=>
 some (!iK)).bind fun aat=>
 (if aat=true then
 some true
 else
 (qn F jq.2.bh 0 2).bind fun qG=>
 some (!qG)).bind fun aar=>
 if aar=true then
 some (.done (.inr (aJ.mk 0 0 [] [] [] 0 (kV.mk false []) [] 0 0,5)))
 else
 some (.next (aL (cu+1)))
 else
 some (.done (.inl ()))
def q12(F:Nat)(ni:Int)(bX:List fI):Option (aJ×Int):=
 if ((ni != 0)&&(ni != 1))=true then
 some (aJ.mk 0 0 [] [] [] 0 (kV.mk false []) [] 0 0,1)
 else
 if (decide (len bX>64))=true then
 some (aJ.mk 0 0 [] [] [] 0 (kV.mk false []) [] 0 0,4)
 else
 (iter (fun s=>ZT F bX s) F 0).bind fun o=>
 match o with
 | .inl _=>q6f F ni bX
 | .inr u=>some u
def q42(_:Nat)(s_1:List aQ):Option (List aQ):=
 (app 96 ([]:List aQ) s_1).bind fun uN=>
 some uN
def q43(_:Nat)(s_1:List aM):Option (List aM):=
 (app 136 ([]:List aM) s_1).bind fun uN=>
 some uN
def q44(_:Nat)(s_1:List bq):Option (List bq):=
 (app 32 ([]:List bq) s_1).bind fun uN=>
 some uN
def q6g(_:Nat)(uN:List Int):Option (List Int):=
 some uN
def qo(_:Nat)(Am:List (List Int))(Rk:List Int)(cu:Int):Option (Out (List Int×Int) (List Int)):=
 if (decide (cu<len Am))=true then
 (idx Am cu).bind fun fO=>
 (app 1 Rk fO).bind fun Qk=>
 some (.next (Qk,aL (cu+1)))
 else
 some (.done Rk)
def qa(F:Nat)(Am:List (List Int)):Option (List Int):=
 (iter (fun s=>qo F Am s.1 s.2) F ([],0)).bind fun o=>
 q6g F o
def q6h(_:Nat)(uN:List (List Int)):Option (List (List Int)):=
 some uN
def ZR(F:Nat)(l_1 Rk:List (List Int))(cu:Int):Option (Out (List (List Int)×Int) (List (List Int))):=
 if (decide (cu<len l_1))=true then
 (idx l_1 cu).bind fun fO=>
 (qa F [fO]).bind fun jr=>
 (app 24 Rk [jr]).bind fun xP=>
 some (.next (xP,aL (cu+1)))
 else
 some (.done Rk)
def q3h(F:Nat)(l_1:List (List Int)):Option (List (List Int)):=
 (iter (fun s=>ZR F l_1 s.1 s.2) F ([],0)).bind fun o=>
 q6h F o
def q6i(F:Nat)(m_1 Lp:aJ)(xP:List aM)(Ll:List bq):Option bO:=
 (qa F [m_1.ay.aq]).bind fun qE=>
 some (bO.mk ({m_1 with ak:=Lp.ak,aj:=xP,aB:=Lp.aB,ay:={m_1.ay with aq:=qE},Out:=Ll}) [])
def ZQ(F:Nat)(Lp:aJ)(EC:List bq)(mE:Int):Option (Out (List bq×Int) (List bq)):=
 if (decide (mE<len Lp.Out))=true then
 (idx EC mE).bind fun qH=>
 (qa F [qH.am]).bind fun rV=>
 (idx EC mE).bind fun _=>
 (idx EC mE).bind fun iP=>
 (upd EC mE ({iP with am:=rV})).bind fun abZ=>
 some (.next (abZ,aL (mE+1)))
 else
 some (.done EC)
def q6j(F:Nat)(m_1 Lp:aJ)(xP:List aM):Option bO:=
 (iter (fun s=>ZQ F Lp s.1 s.2) F (Lp.Out,0)).bind fun o=>
 q6i F m_1 Lp xP o
def ZP(F:Nat)(Lp:aJ)(zV:List aM)(kF:Int):Option (Out (List aM×Int) (List aM)):=
 if (decide (kF<len Lp.aj))=true then
 (idx zV kF).bind fun lu=>
 (q3h F lu.Out).bind fun ad5=>
 (qa F [lu.In]).bind fun ad2=>
 (idx zV kF).bind fun _=>
 (idx zV kF).bind fun aaQ=>
 (upd zV kF ({aaQ with Out:=ad5})).bind fun Ml=>
 (idx Ml kF).bind fun _=>
 (idx Ml kF).bind fun aaN=>
 (upd Ml kF ({aaN with In:=ad2})).bind fun ab0=>
 some (.next (ab0,aL (kF+1)))
 else
 some (.done zV)
def q6k(F:Nat)(m_1 Lp:aJ):Option bO:=
 (iter (fun s=>ZP F Lp s.1 s.2) F (Lp.aj,0)).bind fun o=>
 q6j F m_1 Lp o
def qg(F:Nat)(m_1:aJ):Option bO:=
 (q24 F m_1.ak).bind fun aaK=>
 (q42 F m_1.aB).bind fun aaJ=>
 (q43 F m_1.aj).bind fun aaI=>
 (q44 F m_1.Out).bind fun aaH=>
 q6k F m_1 ({m_1 with ak:=aaK,aj:=aaI,aB:=aaJ,Out:=aaH})
def q8e(_:Nat):Option Int:=
 some (-1)
def ZO(_:Nat)(s_1:List Int)(v_2 x_3:Int):Option (Out Int (Sum Unit Int)):=
 if (decide (x_3<len s_1))=true then
 (idx s_1 x_3).bind fun cu=>
 if (v_2==cu)=true then
 some (.done (.inr x_3))
 else
 some (.next (aL (x_3+1)))
 else
 some (.done (.inl ()))
def q57(F:Nat)(s_1:List Int)(v_2:Int):Option Int:=
 (iter (fun s=>ZO F s_1 v_2 s) F 0).bind fun o=>
 match o with
 | .inl _=>q8e F
 | .inr u=>some u
def q2a(F:Nat)(s_1:List Int)(v_2:Int):Option Bool:=
 (q57 F s_1 v_2).bind fun x_3=>
 some (decide (x_3>=0))
def q2b(F:Nat)(Du:Int)(nP:List Int):Option (List Int):=
 (q2a F nP Du).bind fun x_3=>
 if (!x_3)=true then
 (app 2 nP [Du]).bind fun NW=>
 some NW
 else
 some nP
def q8f(_:Nat)(Rk:List Int):Option (List Int):=
 some Rk
def q5w(_:Nat)(fO:Int)(Qk:List Int):Option (Out (List Int×Int) (List Int)):=
 some (.next (Qk,aL (fO+1)))
def XG(F:Nat)(x_1:bO)(NW:List Int)(fO:Int):Option (Out (List Int×Int) (List Int)):=
 if (decide (fO<len x_1.aD.aB))=true then
 (idx x_1.aD.aB fO).bind fun jq=>
 if ((jq.ae==20)||(jq.ae==6))=true then
 (q2b F jq.ab NW).bind fun EO=>
 q5w F fO EO
 else
 q5w F fO NW
 else
 some (.done NW)
def q6l(F:Nat)(x_1:bO)(uN:List Int):Option (List Int):=
 (iter (fun s=>XG F x_1 s.1 s.2) F (uN,0)).bind fun o=>
 q8f F o
def XF(F:Nat)(x_1:bO)(l_9:List Int)(A9:Int):Option (Out (List Int×Int) (List Int)):=
 if (decide (A9<len x_1.aD.aj))=true then
 (idx x_1.aD.aj A9).bind fun mE=>
 (q2b F mE.ap l_9).bind fun qH=>
 some (.next (qH,aL (A9+1)))
 else
 some (.done l_9)
def q45(F:Nat)(x_1:bO):Option (List Int):=
 (iter (fun s=>XF F x_1 s.1 s.2) F ([],0)).bind fun o=>
 q6l F x_1 o
def q8g(_:Nat)(x_3:Int):Option (Int×Bool):=
 some (x_3,true)
def ZN(F:Nat)(x_2:List Int)(cu:Int):Option (Out Int Int):=
 (q2a F x_2 cu).bind fun fO=>
 if fO=true then
 some (.next (kW (cu+1)))
 else
 some (.done cu)
def q17(F:Nat)(x_1:bO):Option (Int×Bool):=
 (q45 F x_1).bind fun x_2=>
 if (decide ((len x_2)>=16))=true then
 some (0,false)
 else
 (iter (fun s=>ZN F x_2 s) F 64).bind fun o=>
 q8g F o
def qy(_:Nat)(x_1:bO):Option Bool:=
 some (decide ((len x_1.aD.Out)>=64))
def q58(_:Nat)(s_1:aQ)(nP:Int):Option (Bool×Int):=
 some ((s_1.ID==nP),nP)
def q8h(_:Nat)(x_3:Int):Option (Int×Int):=
 some ((-1),x_3)
def ZM(F:Nat)(s_1:List aQ)(cu fO:Int):Option (Out (Int×Int) (Sum Int (Int×Int))):=
 if (decide (fO<len s_1))=true then
 (idx s_1 fO).bind fun jr=>
 (q58 F jr cu).bind fun jq=>
 if jq.1=true then
 some (.done (.inr (fO,jq.2)))
 else
 some (.next (jq.2,aL (fO+1)))
 else
 some (.done (.inl cu))
def q59(F:Nat)(s_1:List aQ)(c_2:Int):Option (Int×Int):=
 (iter (fun s=>ZM F s_1 s.1 s.2) F (c_2,0)).bind fun o=>
 match o with
 | .inl u=>q8h F u
 | .inr u=>some u
def q46(F:Nat)(s_1:List aQ)(c_2:Int):Option (Bool×Int):=
 (q59 F s_1 c_2).bind fun x_3=>
 some (decide (x_3.1>=0),x_3.2)
def q6m(_:Nat)(x_1:bO)(x_2:Int):Option (Int×bO):=
 some (x_2,{x_1 with aD:={x_1.aD with bV:=aL (iE x_2 255+1)}})
def q47(F:Nat)(x_1:bO)(cu fO:Int):Option (Out (Int×Int) Int):=
 (q46 F x_1.aD.aB fO).bind fun jr=>
 if (!jr.1)=true then
 some (.done jr.2)
 else
 some (.next (aL (jr.2+1),aL (cu+1)))
def ZL(F:Nat)(x_1:bO)(x_3 cu:Int):Option (Out (Int×Int) Int):=
 if (decide (cu<255))=true then
 if ((decide (x_3<1))||(decide (x_3>255)))=true then
 q47 F x_1 cu 1
 else
 q47 F x_1 cu x_3
 else
 some (.done x_3)
def q1p(F:Nat)(x_1:bO):Option (Int×bO):=
 (iter (fun s=>ZL F x_1 s.1 s.2) F (x_1.aD.bV,0)).bind fun o=>
 q6m F x_1 o
def Wq(_:Nat)(Wv:Bool):Option Bool:=
 if Wv=true then
 some true
 else
 some false
def q2f(F:Nat)(eP:Int):Option Bool:=
 if (eP==1)=true then
 Wq F (eP==1)
 else
 if (eP==6)=true then
 Wq F (eP==6)
 else
 if (eP==7)=true then
 Wq F (eP==7)
 else
 if (eP==18)=true then
 Wq F (eP==18)
 else
 if (eP==19)=true then
 Wq F (eP==19)
 else
 if (eP==20)=true then
 Wq F (eP==20)
 else
 if (eP==21)=true then
 Wq F (eP==21)
 else
 Wq F (eP==22)
def ZK(_:Nat)(s_1 QJ:aQ):Option aQ:=
 some ({QJ with ae:=s_1.ae,ID:=s_1.ID})
def q8i(F:Nat)(s_1:aQ):Option aQ:=
 ZK F s_1 ({s_1 with bT:=0,dh:=0,cZ:=0,aA:=0,Result:=0,ao:=(jP.mk 0 0 0 0 0)})
def q6n(F:Nat)(s_1:aQ):Option aQ:=
 q8i F s_1
def q6o(F:Nat)(s_1:aQ):Option aQ:=
 ZK F s_1 ({s_1 with bT:=0,ab:=0,bK:=0,dh:=0,cZ:=0,aA:=0,ao:=(jP.mk 0 0 0 0 0)})
def q8j(F:Nat)(s_1:aQ):Option aQ:=
 ZK F s_1 ({s_1 with bK:=0,Result:=0,ao:=(jP.mk 0 0 0 0 0)})
def q8k(F:Nat)(s_1:aQ):Option aQ:=
 ZK F s_1 ({s_1 with bT:=0,bK:=0,ao:=(jP.mk 0 0 0 0 0)})
def q8l(F:Nat)(s_1:aQ):Option aQ:=
 ZK F s_1 ({s_1 with bT:=0,bK:=0,dh:=0,cZ:=0,Result:=0,ao:=(jP.mk 0 0 0 0 0)})
def q48(F:Nat)(s_1:aQ):Option aQ:=
 if (s_1.ae==19)=true then
 q6o F s_1
 else
 if (s_1.ae==1)=true then
 q6o F s_1
 else
 if (s_1.ae==7)=true then
 q6n F s_1
 else
 if (s_1.ae==6)=true then
 q6n F s_1
 else
 if (s_1.ae==18)=true then
 ZK F s_1 ({s_1 with bT:=0,ab:=0,bK:=0,dh:=0,cZ:=0,aA:=0,Result:=0})
 else
 if (s_1.ae==20)=true then
 q8j F s_1
 else
 if (s_1.ae==21)=true then
 q8k F s_1
 else
 if (s_1.ae==22)=true then
 q8l F s_1
 else
 ZK F s_1 ({s_1 with bT:=0,ab:=0,bK:=0,dh:=0,cZ:=0,aA:=0,Result:=0,ao:=(jP.mk 0 0 0 0 0)})
def q3i(_:Nat)(Wv:Bool):Option Bool:=
 if Wv=true then
 some true
 else
 some false
def q3j(F:Nat)(s_1:aQ):Option Bool:=
 if (s_1.ae==1)=true then
 some ((s_1.Result==0)||(s_1.Result==2))
 else
 if (s_1.ae==19)=true then
 some ((s_1.Result==0)||(s_1.Result==1))
 else
 if (s_1.ae==21)=true then
 if (s_1.Result==0)=true then
 q3i F (s_1.Result==0)
 else
 if (s_1.Result==2)=true then
 q3i F (s_1.Result==2)
 else
 if (s_1.Result==4)=true then
 q3i F (s_1.Result==4)
 else
 if (s_1.Result==5)=true then
 q3i F (s_1.Result==5)
 else
 q3i F (s_1.Result==9)
 else
 some true
def qp(_:Nat)(Du:Int):Option Bool:=
 some ((decide (Du>=64))&&(decide (Du<=127)))
def q2h(_:Nat)(Lj:Int):Option Bool:=
 some ((decide (Lj>=23))&&(decide (Lj<=4096)))
def q3k(F:Nat)(s_1:aQ)(z_8:Bool):Option Bool:=
 if z_8=true then
 (qp F s_1.ab).bind fun qE=>
 (if qE=true then
 (q2h F s_1.dh).bind fun iP=>
 some iP
 else
 some false).bind fun aau=>
 (if aau=true then
 (q2h F s_1.cZ).bind fun rV=>
 some rV
 else
 some false).bind fun aas=>
 some ((aas&&(decide (s_1.aA>=0)))&&(decide (s_1.aA<=65535)))
 else
 if (s_1.ae==22)=true then
 (qp F s_1.ab).bind fun iK=>
 some ((iK&&(decide (s_1.aA>=1)))&&(decide (s_1.aA<=65535)))
 else
 some true
def XE(F:Nat)(s_1:aQ)(Wv:Bool):Option Bool:=
 if Wv=true then
 (qp F s_1.ab).bind fun x_3=>
 (if x_3=true then
 (qp F s_1.bK).bind fun jq=>
 some jq
 else
 some false).bind fun z_5=>
 some z_5
 else
 if (s_1.ae==20)=true then
 q3k F s_1 (s_1.ae==20)
 else
 q3k F s_1 (s_1.ae==21)
def q16(F:Nat)(s_1:aQ):Option Bool:=
 if (s_1.ae==6)=true then
 XE F s_1 (s_1.ae==6)
 else
 XE F s_1 (s_1.ae==7)
def q8m(_:Nat):Option Bool:=
 some true
def ZJ(_:Nat)(Oy:List xM)(x_2:Int):Option (Out Int (Sum Unit Bool)):=
 if (decide (x_2<len Oy))=true then
 (idx Oy x_2).bind fun x_3=>
 if ((decide (x_3.n<x_3.br))||(decide (x_3.n>x_3.bp)))=true then
 some (.done (.inr false))
 else
 some (.next (aL (x_2+1)))
 else
 some (.done (.inl ()))
def q49(F:Nat)(Oy:List xM):Option Bool:=
 (iter (fun s=>ZJ F Oy s) F 0).bind fun o=>
 match o with
 | .inl _=>q8m F
 | .inr u=>some u
def q2j(F:Nat)(u_1:jP):Option Int:=
 (q49 F [xM.mk u_1.bQ 1 8,xM.mk u_1.aZ 0 3200,xM.mk u_1.aE 6 3200,xM.mk u_1.aO 0 499,xM.mk u_1.bc 10 3200]).bind fun x_2=>
 if (!x_2)=true then
 some 5
 else
 if (((decide (u_1.bQ>=u_1.aE))||(decide (u_1.aZ>u_1.aE)))||(decide (aL (u_1.bc*10000)<=aL (aL (aL (2*aL (u_1.aO+1))*u_1.aE)*1250))))=true then
 some 11
 else
 some 0
def q6p(F:Nat)(s_1:aQ)(z_3:Bool):Option Int:=
 if z_3=true then
 some 1
 else
 (q3j F s_1).bind fun cu=>
 if (!cu)=true then
 some 5
 else
 if ((s_1.ae==21)&&(s_1.Result != 0))=true then
 if ((((s_1.ab != 0)||(s_1.dh != 0))||(s_1.cZ != 0))||(s_1.aA != 0))=true then
 some 1
 else
 some 0
 else
 if ((s_1.ae==20)&&(s_1.bT==0))=true then
 some 1
 else
 (q16 F s_1).bind fun fO=>
 if (!fO)=true then
 some 5
 else
 if (s_1.ae==18)=true then
 (q2j F s_1.ao).bind fun jr=>
 some jr
 else
 some 0
def q2k(F:Nat)(s_1:aQ):Option Int:=
 (q2f F s_1.ae).bind fun x_2=>
 if (!x_2)=true then
 some 12
 else
 if ((decide (s_1.ID<1))||(decide (s_1.ID>255)))=true then
 some 5
 else
 (q48 F s_1).bind fun qE=>
 q6p F s_1 (!((s_1.ae==qE.ae)&&((s_1.ID==qE.ID)&&((s_1.bT==qE.bT)&&((s_1.ab==qE.ab)&&((s_1.bK==qE.bK)&&((s_1.dh==qE.dh)&&((s_1.cZ==qE.cZ)&&((s_1.aA==qE.aA)&&((s_1.Result==qE.Result)&&((s_1.ao.bQ==qE.ao.bQ)&&((s_1.ao.aZ==qE.ao.aZ)&&((s_1.ao.aE==qE.ao.aE)&&((s_1.ao.aO==qE.ao.aO)&&(s_1.ao.bc==qE.ao.bc)))))))))))))))
def q5a(_:Nat)(eP:Int)(z_3:Bool):Option (List Int):=
 if z_3=true then
 some [2,2]
 else
 if (eP==18)=true then
 some [1,2,2,2,2]
 else
 some [2,2,2,2,2]
def q5x(F:Nat)(eP:Int)(Wv:Bool):Option (List Int):=
 if Wv=true then
 some [2]
 else
 if (eP==6)=true then
 q5a F eP (eP==6)
 else
 if (eP==7)=true then
 q5a F eP (eP==7)
 else
 q5a F eP (eP==22)
def qq(F:Nat)(eP:Int):Option (List Int):=
 if (eP==1)=true then
 q5x F eP (eP==1)
 else
 q5x F eP (eP==19)
def q6q(_:Nat)(s_1:aQ)(z_3:Bool):Option (List Int):=
 if z_3=true then
 some [aL s_1.ab,aL s_1.bK]
 else
 if (s_1.ae==18)=true then
 some [s_1.ao.bQ,s_1.ao.aZ,s_1.ao.aE,s_1.ao.aO,s_1.ao.bc]
 else
 if (s_1.ae==20)=true then
 some [aL s_1.bT,aL s_1.ab,s_1.dh,s_1.cZ,s_1.aA]
 else
 if (s_1.ae==21)=true then
 some [aL s_1.ab,s_1.dh,s_1.cZ,s_1.aA,s_1.Result]
 else
 some [aL s_1.ab,s_1.aA]
def q6r(F:Nat)(s_1:aQ)(Wv:Bool):Option (List Int):=
 if Wv=true then
 some [s_1.Result]
 else
 if (s_1.ae==6)=true then
 q6q F s_1 (s_1.ae==6)
 else
 q6q F s_1 (s_1.ae==7)
def q5b(F:Nat)(s_1:aQ):Option (List Int):=
 if (s_1.ae==1)=true then
 q6r F s_1 (s_1.ae==1)
 else
 q6r F s_1 (s_1.ae==19)
def q2l(_:Nat)(Lj:Int):Option Bool:=
 some ((decide (Lj>=1))&&(decide (Lj<=8)))
def q8n(_:Nat)(uN:List Int):Option (List Int×Int):=
 some (uN,0)
def q6s(_:Nat)(cu:Int)(l_5:List Int):Option (Out (List Int×Int) (Sum (List Int) (List Int×Int))):=
 some (.next (l_5,aL (cu+1)))
def XD(_:Nat)(jr:uP)(EC:List Int)(mE:Int):Option (Out (List Int×Int) (List Int)):=
 if (decide (mE<jr.bo))=true then
 (Kg .u64 jr.Value (aL (8*mE))).bind fun qH=>
 (app 1 EC [lg qH]).bind fun l_13=>
 some (.next (l_13,aL (mE+1)))
 else
 some (.done EC)
def ZI(F:Nat)(wZ:List uP)(Rk:List Int)(cu:Int):Option (Out (List Int×Int) (Sum (List Int) (List Int×Int))):=
 if (decide (cu<len wZ))=true then
 (idx wZ cu).bind fun jr=>
 (q2l F jr.bo).bind fun jq=>
 (if (!jq)=true then
 some true
 else
 if (decide (jr.bo<8))=true then
 (Kg .u64 jr.Value (aL (8*jr.bo))).bind fun qG=>
 some (qG != 0)
 else
 some false).bind fun z_9=>
 if z_9=true then
 some (.done (.inr ([],5)))
 else
 (iter (fun s=>XD F jr s.1 s.2) F (Rk,0)).bind fun o=>
 q6s F cu o
 else
 some (.done (.inl Rk))
def q2n(F:Nat)(wZ:List uP):Option (List Int×Int):=
 (iter (fun s=>ZI F wZ s.1 s.2) F ([],0)).bind fun o=>
 match o with
 | .inl u=>q8n F u
 | .inr u=>some u
def q6t(F:Nat)(s_1:aQ)(NW:List uP)(fO:Int):Option (List Int×Int):=
 (q2n F NW).bind fun jr=>
 if (jr.2 != 0)=true then
 some ([],jr.2)
 else
 (qa F [[lg s_1.ae,lg s_1.ID,lg fO,0],jr.1]).bind fun jq=>
 some (jq,0)
def Rj(_:Nat)(x_3 EO:List Int)(l_9:List uP)(A9 mE:Int):Option (Out (List uP×Int×Int) (List uP×Int)):=
 if (decide (mE<len EO))=true then
 (idx EO mE).bind fun qH=>
 (idx x_3 mE).bind fun aaP=>
 (app 16 l_9 [uP.mk aaP (wu64 qH)]).bind fun ab1=>
 (idx x_3 mE).bind fun rV=>
 some (.next (ab1,aL (A9+rV),aL (mE+1)))
 else
 some (.done (l_9,A9))
def q4a(F:Nat)(s_1:aQ):Option (List Int×Int):=
 (q2k F s_1).bind fun x_2=>
 if (x_2 != 0)=true then
 some ([],x_2)
 else
 (qq F s_1.ae).bind fun x_3=>
 (q5b F s_1).bind fun EO=>
 (iter (fun s=>Rj F x_3 EO s.1 s.2.1 s.2.2) F ([],0,0)).bind fun o=>
 q6t F s_1 o.1 o.2
def q19(F:Nat)(x_1:bO)(nK:Int)(b_3:List Int):Option bO:=
 (qa F [b_3]).bind fun jr=>
 (app 32 x_1.aD.Out [bq.mk nK jr]).bind fun xP=>
 some ({x_1 with aD:={x_1.aD with Out:=xP}})
def qf(F:Nat)(x_1:bO)(s_2:aQ):Option bO:=
 (q4a F s_2).bind fun x_3=>
 if (x_3.2==0)=true then
 (q19 F x_1 5 x_3.1).bind fun cu=>
 some cu
 else
 some x_1
def q1a(F:Nat)(x_1:bO)(s_2:aQ):Option bO:=
 (q1p F x_1).bind fun x_3=>
 (qf F x_3.2 ({s_2 with ID:=x_3.1})).bind fun cu=>
 (app 96 cu.aD.aB [{s_2 with ID:=x_3.1}]).bind fun xP=>
 some ({cu with aD:={cu.aD with aB:=xP}})
def q1b(F:Nat)(m_1:aJ)(ZV ZX ZY FX:Int):Option (aJ×Int×Int):=
 (qg F m_1).bind fun jr=>
 (q17 F jr).bind fun jq=>
 if (ZV==0)=true then
 some (jr.aD,0,1)
 else
 (qx F ZX).bind fun EO=>
 (if (!EO)=true then
 some true
 else
 (qx F ZY).bind fun lu=>
 some (!lu)).bind fun Lu=>
 (if Lu=true then
 some true
 else
 (qn F FX 0 65535).bind fun oN=>
 some (!oN)).bind fun aat=>
 if aat=true then
 some (jr.aD,0,5)
 else
 (if (!jq.2)=true then
 some true
 else
 (qy F jr).bind fun iP=>
 some iP).bind fun aar=>
 if aar=true then
 some (jr.aD,0,8)
 else
 (q1a F jr (aQ.mk 20 0 ZV jq.1 0 ZX ZY FX 0 (jP.mk 0 0 0 0 0))).bind fun rV=>
 some (rV.aD,jq.1,0)
def q5c(_:Nat)(s_1:aQ)(nP:aM):Option (Bool×aM):=
 some ((s_1.ae==6)&&(s_1.ab==nP.ap),nP)
def q8o(_:Nat)(Vk:aM):Option (Int×aM):=
 some ((-1),Vk)
def ZH(F:Nat)(s_1:List aQ)(c_34:aM)(o7:Int):Option (Out (aM×Int) (Sum aM (Int×aM))):=
 if (decide (o7<len s_1))=true then
 (idx s_1 o7).bind fun jy=>
 (q5c F jy c_34).bind fun AV=>
 if AV.1=true then
 some (.done (.inr (o7,AV.2)))
 else
 some (.next (AV.2,aL (o7+1)))
 else
 some (.done (.inl c_34))
def q5d(F:Nat)(s_1:List aQ)(c_2:aM):Option (Int×aM):=
 (iter (fun s=>ZH F s_1 s.1 s.2) F (c_2,0)).bind fun o=>
 match o with
 | .inl u=>q8o F u
 | .inr u=>some u
def q4b(F:Nat)(s_1:List aQ)(c_2:aM):Option (Bool×aM):=
 (q5d F s_1 c_2).bind fun x_3=>
 some (decide (x_3.1>=0),x_3.2)
def qr(F:Nat)(x_1:bO)(c_2:aM):Option Bool:=
 (q4b F x_1.aD.aB c_2).bind fun x_3=>
 some x_3.1
def q6u(F:Nat)(c_1:aM)(uN:List (List Int)):Option aM:=
 (qa F [c_1.In]).bind fun x_3=>
 some ({c_1 with Out:=uN,In:=x_3})
def ZG(_:Nat)(c_1:aM)(NW:List (List Int))(fO:Int):Option (Out (List (List Int)×Int) (List (List Int))):=
 if (decide (fO<len c_1.Out))=true then
 (idx c_1.Out fO).bind fun jr=>
 (mk 1 0 (len jr)).bind fun xP=>
 (app 24 NW [FY xP jr]).bind fun Ll=>
 some (.next (Ll,aL (fO+1)))
 else
 some (.done NW)
def qt(F:Nat)(c_1:aM):Option aM:=
 (iter (fun s=>ZG F c_1 s.1 s.2) F ([],0)).bind fun o=>
 q6u F c_1 o
def q4c(F:Nat)(Sc:List Int):Option (List Int):=
 (qa F [[lg (len Sc),lg (BO (len Sc) 8)],Sc]).bind fun x_2=>
 some x_2
def q4d(F:Nat)(p_1:aM)(nP:List (List Int)):Option (aM×List (List Int)):=
 (idx p_1.Out 0).bind fun x_3=>
 (q4c F x_3).bind fun cu=>
 (mk 1 0 (cO (imax 1 (cO p_1.bJ (aL ((len cu)-(imax 0 (cO p_1.aS (len cu))))))) (aL ((len cu)-(imax 0 (cO p_1.aS (len cu))))))).bind fun l_5=>
 (sub cu (imax 0 (cO p_1.aS (len cu))) (len cu)).bind fun Qk=>
 (app 24 nP [FY l_5 Qk]).bind fun xP=>
 if (decide ((aL (imax 0 (cO p_1.aS (len cu))+imax 1 (cO p_1.bJ (aL ((len cu)-(imax 0 (cO p_1.aS (len cu))))))))>=(len cu)))=true then
 (sub p_1.Out 1 (len p_1.Out)).bind fun Ll=>
 some ({p_1 with aG:=aL (p_1.aG-1),Out:=Ll,aS:=0},xP)
 else
 some ({p_1 with aG:=aL (p_1.aG-1),aS:=aL (imax 0 (cO p_1.aS (len cu))+imax 1 (cO p_1.bJ (aL ((len cu)-(imax 0 (cO p_1.aS (len cu)))))))},xP)
def q6v(_:Nat)(Vk:aM)(zV:List (List Int)):Option (aM×List (List Int)):=
 some (Vk,zV)
def q6w(F:Nat)(Vk:aM)(zV:List (List Int)):Option (aM×List (List Int)):=
 q6v F Vk zV
def Wp(F:Nat)(YN:aM)(l_38:List (List Int)):Option (Out (aM×List (List Int)) (aM×List (List Int))):=
 if ((decide (len YN.Out>0))&&(decide (YN.aG>0)))=true then
 (q4d F YN l_38).bind fun I4=>
 some (.next (I4.1,I4.2))
 else
 some (.done (YN,l_38))
def q4e(F:Nat)(c_1:aM):Option (aM×List (List Int)):=
 (qt F c_1).bind fun x_2=>
 if x_2.ba=true then
 some (x_2,[])
 else
 (iter (fun s=>Wp F s.1 s.2) F (x_2,[])).bind fun o=>
 q6w F o.1 o.2
def q6x(_:Nat)(QJ:bO):Option bO:=
 some QJ
def q6y(_:Nat)(uG:Int)(c_45:bO):Option (Out (bO×Int) bO):=
 some (.next (c_45,aL (uG+1)))
def q5y(_:Nat)(Gt:Int)(Dv:bO):Option (Out (bO×Int) bO):=
 some (.next (Dv,aL (Gt+1)))
def XC(F:Nat)(EB:List (List (List Int)))(uG:Int)(zX:bO)(Gt:Int):Option (Out (bO×Int) bO):=
 if (decide (Gt<len EB))=true then
 (idx EB Gt).bind fun su=>
 if (decide (uG<len su))=true then
 (idx su uG).bind fun aax=>
 (idx zX.aD.aj Gt).bind fun x_77=>
 (q19 F zX x_77.al aax).bind fun x_78=>
 q5y F Gt x_78
 else
 q5y F Gt zX
 else
 some (.done zX)
def XB(F:Nat)(EB:List (List (List Int)))(iK:Int)(c_31:bO)(uG:Int):Option (Out (bO×Int) bO):=
 if (decide (uG<iK))=true then
 (iter (fun s=>XC F EB uG s.1 s.2) F (c_31,0)).bind fun o=>
 q6y F uG o
 else
 some (.done c_31)
def q6z(F:Nat)(x_1:bO)(l_16:List aM)(EB:List (List (List Int)))(iK:Int):Option bO:=
 (iter (fun s=>XB F EB iK s.1 s.2) F ({x_1 with aD:={x_1.aD with aj:=l_16}},0)).bind fun o=>
 q6x F o
def q5z(_:Nat)(xR:Int)(l_83:List aM)(l_84:List (List (List Int)))(x_85:Int):Option (Out (List aM×List (List (List Int))×Int×Int) (List aM×List (List (List Int))×Int)):=
 some (.next (l_83,l_84,x_85,aL (xR+1)))
def q70(F:Nat)(Ru xR:Int)(l_88:List aM)(l_89:List (List (List Int))):Option (Out (List aM×List (List (List Int))×Int×Int) (List aM×List (List (List Int))×Int)):=
 (idx l_89 xR).bind fun aav=>
 q5z F xR l_88 l_89 (imax Ru (len aav))
def XA(F:Nat)(x_1:bO)(H8:List aM)(Qj:List (List (List Int)))(Ru xR:Int):Option (Out (List aM×List (List (List Int))×Int×Int) (List aM×List (List (List Int))×Int)):=
 if (decide (xR<len x_1.aD.aj))=true then
 (idx H8 xR).bind fun x_86=>
 (qr F ({x_1 with aD:={x_1.aD with aj:=H8}}) x_86).bind fun Rt=>
 if Rt=true then
 q5z F xR H8 Qj Ru
 else
 (q4e F x_86).bind fun x_93=>
 (idx H8 xR).bind fun _=>
 (upd H8 xR x_93.1).bind fun l_95=>
 (idx Qj xR).bind fun _=>
 (upd Qj xR x_93.2).bind fun l_97=>
 q70 F Ru xR l_95 l_97
 else
 some (.done (H8,Qj,Ru))
def q4f(F:Nat)(x_1:bO):Option bO:=
 (mk 24 ([]:List (List Int)) (len x_1.aD.aj)).bind fun TW=>
 (iter (fun s=>XA F x_1 s.1 s.2.1 s.2.2.1 s.2.2.2) F (x_1.aD.aj,TW,0,0)).bind fun o=>
 q6z F x_1 o.1 o.2.1 o.2.2
def q4g(F:Nat)(f_1:bq):Option (List Int×Int):=
 if (f_1.aY==0)=true then
 some ([],1)
 else
 if (decide (len f_1.am>65531))=true then
 some ([],4)
 else
 (q2n F [uP.mk 2 (wu64 (len f_1.am)),uP.mk 2 (wu64 f_1.aY)]).bind fun x_2=>
 if (x_2.2 != 0)=true then
 some ([],x_2.2)
 else
 (qa F [x_2.1,f_1.am]).bind fun x_3=>
 some (x_3,0)
def q71(_:Nat)(jT:bO)(oN:List Int)(kF:Int)(YO:bO):Option (aJ×eY×Bool):=
 some ({jT.aD with Out:=YO.aD.Out,aS:=YO.aD.aS},eY.mk kF oN,true)
def q60(F:Nat)(jT:bO)(oN:List Int)(kF:Int)(YO:bO):Option (aJ×eY×Bool):=
 q71 F jT oN kF YO
def q5e(F:Nat)(jT:bO)(iP:List Int×Int)(oN:List Int)(kF:Int):Option (aJ×eY×Bool):=
 if (decide ((aL (imax 0 (cO jT.aD.aS (len iP.1))+cO (aL ((len iP.1)-(imax 0 (cO jT.aD.aS (len iP.1))))) (imax 27 (cO jT.aD.Length 251))))>=(len iP.1)))=true then
 (sub jT.aD.Out 1 (len jT.aD.Out)).bind fun l_26=>
 q60 F jT oN kF ({jT with aD:={jT.aD with Out:=l_26,aS:=0}})
 else
 q60 F jT oN kF ({jT with aD:={jT.aD with aS:=aL (imax 0 (cO jT.aD.aS (len iP.1))+cO (aL ((len iP.1)-(imax 0 (cO jT.aD.aS (len iP.1))))) (imax 27 (cO jT.aD.Length 251)))}})
def q5f(F:Nat)(jT:bO):Option (aJ×eY×Bool):=
 if (len jT.aD.Out==0)=true then
 some (jT.aD,eY.mk 0 [],false)
 else
 (idx jT.aD.Out 0).bind fun qG=>
 (q4g F qG).bind fun iP=>
 (sub iP.1 (imax 0 (cO jT.aD.aS (len iP.1))) (aL (imax 0 (cO jT.aD.aS (len iP.1))+cO (aL ((len iP.1)-(imax 0 (cO jT.aD.aS (len iP.1))))) (imax 27 (cO jT.aD.Length 251))))).bind fun abZ=>
 (qa F [abZ]).bind fun oN=>
 if (jT.aD.aS==0)=true then
 q5e F jT iP oN 2
 else
 q5e F jT iP oN 1
def qz(F:Nat)(m_1:aJ):Option (aJ×eY×Bool):=
 (qg F m_1).bind fun x_2=>
 if (len x_2.aD.Out==0)=true then
 (q4f F x_2).bind fun Gw=>
 q5f F Gw
 else
 q5f F x_2
def q72(_:Nat)(a_1:kV)(uN:List Int):Option kV:=
 some ({a_1 with aq:=uN})
def q2q(F:Nat)(a_1:kV):Option kV:=
 (qa F [a_1.aq]).bind fun fO=>
 q72 F a_1 fO
def q8p(_:Nat)(x_2 x_3:Int):Option (Int×Int):=
 some (x_2,x_3)
def q4h(F:Nat)(b_1:List Int):Option (Int×Int):=
 (idx b_1 0).bind fun cu=>
 (idx b_1 1).bind fun fO=>
 (idx b_1 2).bind fun jr=>
 (idx b_1 3).bind fun jq=>
 q8p F (vK .i64 (aL cu) (mJ .i64 (aL fO) 8)) (vK .u16 (kW jr) (mJ .u16 (kW jq) 8))
def q73(_:Nat)(fO:Int):Option (kV×List bq×Int):=
 some (kV.mk false [],[],fO)
def q5g(F:Nat)(e_2 cu:Int):Option (kV×List bq×Int):=
 if (e_2==0)=true then
 q73 F cu
 else
 q73 F e_2
def q4i(F:Nat)(b_1:List Int)(e_2:Int):Option (kV×List bq×Int):=
 if (decide (len b_1<4))=true then
 some (kV.mk true b_1,[],e_2)
 else
 (q4h F b_1).bind fun x_3=>
 if (x_3.2==0)=true then
 q5g F e_2 1
 else
 if ((decide (x_3.1>65531))||(decide (aL ((len b_1)-4)>x_3.1)))=true then
 q5g F e_2 4
 else
 if (decide (aL ((len b_1)-4)<x_3.1))=true then
 some (kV.mk true b_1,[],e_2)
 else
 (sub b_1 4 (len b_1)).bind fun Qk=>
 (qa F [Qk]).bind fun jq=>
 some (kV.mk false [],[bq.mk x_3.2 jq],e_2)
def q5h(F:Nat)(fO:Int)(Qk:List Int):Option (kV×List bq×Int):=
 (q4i F Qk fO).bind fun jq=>
 some (jq.1,jq.2.1,jq.2.2)
def q5i(F:Nat)(nP:eY)(EO:Int):Option (kV×List bq×Int):=
 (qa F [nP.am]).bind fun qE=>
 q5h F EO qE
def q3l(F:Nat)(a_1:kV)(nP:eY):Option (kV×List bq×Int):=
 if ((nP.dV==1)&&(len nP.am==0))=true then
 (q2q F a_1).bind fun x_3=>
 some (x_3,[],0)
 else
 if (((nP.dV != 1)&&(nP.dV != 2))||(len nP.am==0))=true then
 (q2q F a_1).bind fun cu=>
 some (cu,[],12)
 else
 if (nP.dV==2)=true then
 if (!((!a_1.On)&&(len a_1.aq==0)))=true then
 q5i F nP 13
 else
 q5i F nP 0
 else
 if ((!a_1.On)&&(len a_1.aq==0))=true then
 some (kV.mk false [],[],13)
 else
 (qa F [a_1.aq,nP.am]).bind fun A9=>
 q5h F 0 A9
def q5j(_:Nat)(c_1:aM)(nP:Int):Option (Bool×Int):=
 some ((c_1.ap==nP),nP)
def q8q(_:Nat)(x_3:Int):Option (Int×Int):=
 some ((-1),x_3)
def ZF(F:Nat)(s_1:List aM)(cu fO:Int):Option (Out (Int×Int) (Sum Int (Int×Int))):=
 if (decide (fO<len s_1))=true then
 (idx s_1 fO).bind fun jr=>
 (q5j F jr cu).bind fun jq=>
 if jq.1=true then
 some (.done (.inr (fO,jq.2)))
 else
 some (.next (jq.2,aL (fO+1)))
 else
 some (.done (.inl cu))
def q4j(F:Nat)(s_1:List aM)(c_2:Int):Option (Int×Int):=
 (iter (fun s=>ZF F s_1 s.1 s.2) F (c_2,0)).bind fun o=>
 match o with
 | .inl u=>q8q F u
 | .inr u=>some u
def q14(F:Nat)(x_1:bO)(nK:Int):Option Int:=
 (q4j F x_1.aD.aj nK).bind fun x_3=>
 some x_3.1
def qe(_:Nat)(x_1:bO)(e_2:iw):Option bO:=
 (app 96 x_1.ar [e_2]).bind fun l_5=>
 some ({x_1 with ar:=l_5})
def q74(F:Nat)(NW l_5:List Int):Option (List Int×List Int×Int):=
 (qa F [NW]).bind fun jr=>
 some (l_5,jr,0)
def q75(_:Nat)(qE:Int)(EC l_11:List Int):Option (Out (List Int×List Int×Int) (List Int×List Int)):=
 some (.next (EC,l_11,aL (qE+1)))
def q76(F:Nat)(xP Ll:List Int)(qE qH aaP:Int):Option (Out (List Int×List Int×Int) (List Int×List Int)):=
 (app 8 Ll [aaP]).bind fun ab1=>
 (sub xP qH (len xP)).bind fun TW=>
 q75 F qE TW ab1
def Wo(_:Nat)(xP:List Int)(qH qG iP:Int):Option (Out (Int×Int) Int):=
 if (decide (iP<qH))=true then
 (idx xP iP).bind fun iK=>
 (Kh .u64 (wu64 iK) (aL (8*iP))).bind fun oN=>
 some (.next (vK .u64 qG oN,aL (iP+1)))
 else
 some (.done qG)
def ZE(F:Nat)(lS xP Ll:List Int)(qE:Int):Option (Out (List Int×List Int×Int) (List Int×List Int)):=
 if (decide (qE<len lS))=true then
 (idx lS qE).bind fun qH=>
 (iter (fun s=>Wo F xP qH s.1 s.2) F (0,0)).bind fun o=>
 q76 F xP Ll qE qH o
 else
 some (.done (xP,Ll))
def q61(F:Nat)(b_1 lS:List Int)(x_3:Int):Option (List Int×List Int×Int):=
 if (decide (len b_1<x_3))=true then
 some ([],[],3)
 else
 (iter (fun s=>ZE F lS s.1 s.2.1 s.2.2) F (b_1,[],0)).bind fun o=>
 q74 F o.1 o.2
def Xz(F:Nat)(lS:List Int)(kF lu:Int):Option (Out (Int×Int) (Sum Int (List Int×List Int×Int))):=
 if (decide (lu<len lS))=true then
 (idx lS lu).bind fun oM=>
 (q2l F oM).bind fun xS=>
 if (!xS)=true then
 some (.done (.inr ([],[],5)))
 else
 some (.next (aL (kF+oM),aL (lu+1)))
 else
 some (.done (.inl kF))
def q2t(F:Nat)(b_1 lS:List Int):Option (List Int×List Int×Int):=
 (iter (fun s=>Xz F lS s.1 s.2) F (0,0)).bind fun o=>
 match o with
 | .inl u=>q61 F b_1 lS u
 | .inr u=>some u
def qc(_:Nat)(i_1:Int)(nP:List Int):Option (Int×List Int):=
 (idx nP i_1).bind fun x_3=>
 some (aL x_3,nP)
def qu(_:Nat)(i_1:Int)(nP:List Int):Option (Int×List Int):=
 (idx nP i_1).bind fun x_3=>
 some (kW x_3,nP)
def ZC(_:Nat)(s_1 jT:aQ):Option aQ:=
 some ({jT with ae:=s_1.ae,ID:=s_1.ID})
def q77(F:Nat)(s_1:aQ)(uN:List Int)(Lr:Bool):Option aQ:=
 if Lr=true then
 (qu F 0 uN).bind fun oN=>
 (qu F 1 oN.2).bind fun kF=>
 ZC F s_1 ({s_1 with ab:=oN.1,bK:=kF.1})
 else
 if (s_1.ae==18)=true then
 (qc F 0 uN).bind fun lu=>
 (qc F 1 lu.2).bind fun oM=>
 (qc F 2 oM.2).bind fun xS=>
 (qc F 3 xS.2).bind fun OT=>
 (qc F 4 OT.2).bind fun aaG=>
 ZC F s_1 ({s_1 with ao:=(jP.mk lu.1 oM.1 xS.1 OT.1 aaG.1)})
 else
 if (s_1.ae==20)=true then
 (qu F 0 uN).bind fun I5=>
 (qu F 1 I5.2).bind fun Gw=>
 (qc F 2 Gw.2).bind fun Wy=>
 (qc F 3 Wy.2).bind fun Gu=>
 (qc F 4 Gu.2).bind fun aaF=>
 ZC F s_1 ({s_1 with bT:=I5.1,ab:=Gw.1,dh:=Wy.1,cZ:=Gu.1,aA:=aaF.1})
 else
 if (s_1.ae==21)=true then
 (qu F 0 uN).bind fun x_31=>
 (qc F 1 x_31.2).bind fun uG=>
 (qc F 2 uG.2).bind fun zO=>
 (qc F 3 zO.2).bind fun rU=>
 (qc F 4 rU.2).bind fun o7=>
 ZC F s_1 ({s_1 with ab:=x_31.1,dh:=uG.1,cZ:=zO.1,aA:=rU.1,Result:=o7.1})
 else
 if (s_1.ae==22)=true then
 (qu F 0 uN).bind fun jy=>
 (qc F 1 jy.2).bind fun AV=>
 ZC F s_1 ({s_1 with ab:=jy.1,aA:=AV.1})
 else
 ZC F s_1 s_1
def q78(F:Nat)(s_1:aQ)(uN:List Int)(aaq:Bool):Option aQ:=
 if aaq=true then
 (qc F 0 uN).bind fun iP=>
 ZC F s_1 ({s_1 with Result:=iP.1})
 else
 if (s_1.ae==6)=true then
 q77 F s_1 uN (s_1.ae==6)
 else
 q77 F s_1 uN (s_1.ae==7)
def qh(F:Nat)(s_1:aQ)(uN:List Int):Option aQ:=
 if (s_1.ae==1)=true then
 q78 F s_1 uN (s_1.ae==1)
 else
 q78 F s_1 uN (s_1.ae==19)
def q79(F:Nat)(Vi:aQ)(Ll l_9:List Int)(A9:Int):Option (aQ×Int):=
 if (A9 != 0)=true then
 some (aQ.mk 0 0 0 0 0 0 0 0 0 (jP.mk 0 0 0 0 0),A9)
 else
 if (decide (len l_9>0))=true then
 some (aQ.mk 0 0 0 0 0 0 0 0 0 (jP.mk 0 0 0 0 0),2)
 else
 (qh F ({Vi with bT:=0,ab:=0,bK:=0,dh:=0,cZ:=0,aA:=0,Result:=0,ao:=(jP.mk 0 0 0 0 0)}) Ll).bind fun mE=>
 (q2k F mE).bind fun qH=>
 if (qH != 0)=true then
 some (aQ.mk 0 0 0 0 0 0 0 0 0 (jP.mk 0 0 0 0 0),qH)
 else
 some (mE,0)
def q62(F:Nat)(b_1:List Int)(Vi:aQ)(fO jr:Int):Option (aQ×Int):=
 (q2f F Vi.ae).bind fun jq=>
 if (!jq)=true then
 some (aQ.mk 0 0 0 0 0 0 0 0 0 (jP.mk 0 0 0 0 0),12)
 else
 if (Vi.ID==0)=true then
 some (aQ.mk 0 0 0 0 0 0 0 0 0 (jP.mk 0 0 0 0 0),5)
 else
 if (fO != jr)=true then
 some (aQ.mk 0 0 0 0 0 0 0 0 0 (jP.mk 0 0 0 0 0),2)
 else
 (sub b_1 4 (len b_1)).bind fun TW=>
 (qq F Vi.ae).bind fun qG=>
 (q2t F TW qG).bind fun iP=>
 q79 F Vi iP.1 iP.2.1 iP.2.2
def q5k(_:Nat)(iK:List Int)(oN kF:Int):Option (Out (Int×Int) Int):=
 if (decide (kF<len iK))=true then
 (idx iK kF).bind fun lu=>
 some (.next (aL (oN+lu),aL (kF+1)))
 else
 some (.done oN)
def q63(F:Nat)(b_1:List Int)(Vi:aQ)(fO:Int):Option (aQ×Int):=
 (qq F Vi.ae).bind fun iK=>
 (iter (fun s=>q5k F iK s.1 s.2) F (0,0)).bind fun o=>
 q62 F b_1 Vi fO o
def q64(F:Nat)(b_1:List Int)(Vi:aQ):Option (aQ×Int):=
 (idx b_1 2).bind fun oM=>
 (idx b_1 3).bind fun xS=>
 q63 F b_1 Vi (vK .i64 (aL oM) (mJ .i64 (aL xS) 8))
def q3m(F:Nat)(b_1:List Int):Option (aQ×Int):=
 if (decide (len b_1<4))=true then
 some (aQ.mk 0 0 0 0 0 0 0 0 0 (jP.mk 0 0 0 0 0),3)
 else
 (idx b_1 0).bind fun I5=>
 (idx b_1 1).bind fun Gw=>
 q64 F b_1 (aQ.mk (aL I5) (aL Gw) 0 0 0 0 0 0 0 (jP.mk 0 0 0 0 0))
def q3n(_:Nat):Option Unit:=
 some ()
def q4k(_:Nat)(mU kP:aQ):Option Bool:=
 if (mU.ID != kP.ID)=true then
 some false
 else
 if (mU.ae==20)=true then
 some ((kP.ae==21)||(kP.ae==1))
 else
 if (mU.ae==6)=true then
 some ((kP.ae==1)||(((kP.ae==7)&&(kP.ab==mU.ab))&&(kP.bK==mU.bK)))
 else
 if (mU.ae==18)=true then
 some ((kP.ae==19)||(kP.ae==1))
 else
 some false
def q5l(F:Nat)(r_1 nP:aQ):Option (Bool×aQ):=
 (q4k F r_1 nP).bind fun x_3=>
 some (x_3,nP)
def q8r(_:Nat)(yT:aQ):Option (Int×aQ):=
 some ((-1),yT)
def ZB(F:Nat)(s_1:List aQ)(Vj:aQ)(zO:Int):Option (Out (aQ×Int) (Sum aQ (Int×aQ))):=
 if (decide (zO<len s_1))=true then
 (idx s_1 zO).bind fun rU=>
 (q5l F rU Vj).bind fun o7=>
 if o7.1=true then
 some (.done (.inr (zO,o7.2)))
 else
 some (.next (o7.2,aL (zO+1)))
 else
 some (.done (.inl Vj))
def q4l(F:Nat)(s_1:List aQ)(c_2:aQ):Option (Int×aQ):=
 (iter (fun s=>ZB F s_1 s.1 s.2) F (c_2,0)).bind fun o=>
 match o with
 | .inl u=>q8r F u
 | .inr u=>some u
def q3o(_:Nat)(s_1:List aQ)(wT j_3:Int):Option (List aQ):=
 if 0<=wT/\wT<=j_3/\j_3<=(s_1.length:Int)then
 some (s_1.take wT.toNat++s_1.drop j_3.toNat)
 else
 none
def q15(F:Nat)(x_1:bO)(s_2:aQ):Option (aQ×Bool×bO):=
 (q4l F x_1.aD.aB s_2).bind fun x_3=>
 if (decide (x_3.1<0))=true then
 some (aQ.mk 0 0 0 0 0 0 0 0 0 (jP.mk 0 0 0 0 0),false,x_1)
 else
 (idx x_1.aD.aB x_3.1).bind fun cu=>
 (q3o F x_1.aD.aB x_3.1 (aL (x_3.1+1))).bind fun fO=>
 some (cu,true,{x_1 with aD:={x_1.aD with aB:=fO}})
def q4m(_:Nat)(s_1:List aM)(wT j_3:Int):Option (List aM):=
 if 0<=wT/\wT<=j_3/\j_3<=(s_1.length:Int)then
 some (s_1.take wT.toNat++s_1.drop j_3.toNat)
 else
 none
def q2w(F:Nat)(x_1:bO)(wT:Int):Option bO:=
 (idx x_1.aD.aj wT).bind fun x_3=>
 (q4m F x_1.aD.aj wT (aL (wT+1))).bind fun cu=>
 (qe F ({x_1 with aD:={x_1.aD with aj:=cu}}) (iw.mk 4 x_3.ap [] 0 (jP.mk 0 0 0 0 0) 0)).bind fun fO=>
 some fO
def q2x(F:Nat)(x_1:bO)(RX:Int):Option bO:=
 (q14 F x_1 RX).bind fun x_3=>
 if (decide (x_3>=0))=true then
 (q2w F x_1 x_3).bind fun cu=>
 some cu
 else
 some x_1
def q4n(F:Nat)(x_1:bO)(s_2:aQ):Option bO:=
 (q15 F x_1 s_2).bind fun x_3=>
 if (!x_3.2.1)=true then
 some x_3.2.2
 else
 if (x_3.1.ae==20)=true then
 (qe F x_3.2.2 (iw.mk 5 x_3.1.ab [] 1 (jP.mk 0 0 0 0 0) 0)).bind fun cu=>
 some cu
 else
 if (x_3.1.ae==6)=true then
 (q2x F x_3.2.2 x_3.1.ab).bind fun fO=>
 some fO
 else
 if (x_3.1.ae==18)=true then
 (qe F x_3.2.2 (iw.mk 7 0 [] 1 (jP.mk 0 0 0 0 0) s_2.ID)).bind fun jr=>
 some jr
 else
 some x_3.2.2
def q65(F:Nat)(x_1:bO)(s_2:aQ)(x_3:Int)(z_4:Bool):Option bO:=
 if z_4=true then
 (qf F x_1 ({s_2 with ae:=1,bT:=0,ab:=0,bK:=0,dh:=0,cZ:=0,aA:=0,Result:=2,ao:=(jP.mk 0 0 0 0 0)})).bind fun fO=>
 some fO
 else
 (qf F x_1 ({s_2 with ae:=7,bT:=0,dh:=0,cZ:=0,aA:=0,Result:=0,ao:=(jP.mk 0 0 0 0 0)})).bind fun jr=>
 (q2w F jr x_3).bind fun jq=>
 some jq
def q4o(F:Nat)(x_1:bO)(s_2:aQ):Option bO:=
 (q14 F x_1 s_2.bK).bind fun x_3=>
 if (decide (x_3<0))=true then
 q65 F x_1 s_2 x_3 true
 else
 (idx x_1.aD.aj x_3).bind fun mE=>
 q65 F x_1 s_2 x_3 (mE.al != s_2.ab)
def q4p(F:Nat)(x_1:bO)(s_2:aQ):Option bO:=
 (q15 F x_1 s_2).bind fun x_3=>
 if x_3.2.1=true then
 (q2x F x_3.2.2 s_2.ab).bind fun cu=>
 some cu
 else
 some x_3.2.2
def q4q(F:Nat)(x_1:bO)(s_2:aQ):Option bO:=
 if (x_1.aD.jm==0)=true then
 (qe F x_1 (iw.mk 6 0 [] 0 s_2.ao s_2.ID)).bind fun x_3=>
 some x_3
 else
 (qf F x_1 ({s_2 with ae:=1,bT:=0,ab:=0,bK:=0,dh:=0,cZ:=0,aA:=0,Result:=0,ao:=(jP.mk 0 0 0 0 0)})).bind fun cu=>
 some cu
def q4r(F:Nat)(x_1:bO)(s_2:aQ):Option bO:=
 (q15 F x_1 s_2).bind fun x_3=>
 if x_3.2.1=true then
 (qe F x_3.2.2 (iw.mk 7 0 [] s_2.Result (jP.mk 0 0 0 0 0) s_2.ID)).bind fun cu=>
 some cu
 else
 some x_3.2.2
def q5m(_:Nat)(l_1:fI)(nP:aQ):Option (Bool×aQ):=
 some ((l_1.bT==nP.bT),nP)
def q8s(_:Nat)(yT:aQ):Option (Int×aQ):=
 some ((-1),yT)
def q3p(F:Nat)(s_1:List fI)(Vj:aQ)(zO:Int):Option (Out (aQ×Int) (Sum aQ (Int×aQ))):=
 if (decide (zO<len s_1))=true then
 (idx s_1 zO).bind fun rU=>
 (q5m F rU Vj).bind fun o7=>
 if o7.1=true then
 some (.done (.inr (zO,o7.2)))
 else
 some (.next (o7.2,aL (zO+1)))
 else
 some (.done (.inl Vj))
def q4s(F:Nat)(s_1:List fI)(c_2:aQ):Option (Int×aQ):=
 (iter (fun s=>q3p F s_1 s.1 s.2) F (c_2,0)).bind fun o=>
 match o with
 | .inl u=>q8s F u
 | .inr u=>some u
def q5n(_:Nat)(c_1:aM)(nP:Int):Option (Bool×Int):=
 some ((c_1.al==nP),nP)
def q8t(_:Nat)(x_3:Int):Option (Int×Int):=
 some ((-1),x_3)
def ZA(F:Nat)(s_1:List aM)(cu fO:Int):Option (Out (Int×Int) (Sum Int (Int×Int))):=
 if (decide (fO<len s_1))=true then
 (idx s_1 fO).bind fun jr=>
 (q5n F jr cu).bind fun jq=>
 if jq.1=true then
 some (.done (.inr (fO,jq.2)))
 else
 some (.next (jq.2,aL (fO+1)))
 else
 some (.done (.inl cu))
def q4t(F:Nat)(s_1:List aM)(c_2:Int):Option (Int×Int):=
 (iter (fun s=>ZA F s_1 s.1 s.2) F (c_2,0)).bind fun o=>
 match o with
 | .inl u=>q8t F u
 | .inr u=>some u
def q1e(F:Nat)(x_1:bO)(nK:Int):Option Int:=
 (q4t F x_1.aD.aj nK).bind fun x_3=>
 some x_3.1
def q7a(F:Nat)(x_1:bO)(x_3:Int×aQ)(cu:Int×Bool)(z_5:Bool):Option (fI×Int):=
 if z_5=true then
 some (fI.mk 0 0 0 0 0,5)
 else
 if (!cu.2)=true then
 some (fI.mk 0 0 0 0 0,4)
 else
 (q1e F x_1 x_3.2.ab).bind fun jr=>
 if (decide (jr>=0))=true then
 some (fI.mk 0 0 0 0 0,9)
 else
 (idx x_1.aD.ak x_3.1).bind fun jq=>
 some (jq,0)
def q5o(F:Nat)(x_1:bO)(s_2:aQ):Option (fI×Int):=
 (q4s F x_1.aD.ak s_2).bind fun x_3=>
 (q17 F x_1).bind fun cu=>
 if (decide (x_3.1<0))=true then
 some (fI.mk 0 0 0 0 0,2)
 else
 (idx x_1.aD.ak x_3.1).bind fun EO=>
 q7a F x_1 x_3 cu (decide (x_1.aD.bh<EO.bh))
def q4u(_:Nat)(s_1:List aM)(wT:Int)(v_3:List aM):Option (List aM):=
 if 0<=wT/\wT<=(s_1.length:Int)/\v_3.length=1/\(s_1.length+1)*136<=140737488355328 then
 some (s_1.take wT.toNat++v_3++s_1.drop wT.toNat)
 else
 none
def q7b(_:Nat)(jT:bO):Option bO:=
 some jT
def q7c(F:Nat)(x_1:bO)(c_2:aM)(EB:List aM):Option bO:=
 (qe F ({x_1 with aD:={x_1.aD with aj:=EB}}) (iw.mk 2 c_2.ap [] 0 (jP.mk 0 0 0 0 0) 0)).bind fun iK=>
 q7b F iK
def q7d(F:Nat)(x_1:bO)(c_2:aM)(qG:Int):Option bO:=
 (q4u F x_1.aD.aj qG [{c_2 with bi:=(-1)}]).bind fun lu=>
 q7c F x_1 c_2 lu
def q4v(_:Nat)(oM:Int)(z_23:Bool):Option (Out Int Int):=
 if z_23=true then
 some (.next (aL (oM+1)))
 else
 some (.done oM)
def Wn(F:Nat)(x_1:bO)(c_2:aM)(oM:Int):Option (Out Int Int):=
 if (decide (oM<len x_1.aD.aj))=true then
 (idx x_1.aD.aj oM).bind fun Gw=>
 q4v F oM (decide (Gw.ap<c_2.ap))
 else
 q4v F oM false
def q2z(F:Nat)(x_1:bO)(c_2:aM):Option bO:=
 (iter (fun s=>Wn F x_1 c_2 s) F 0).bind fun o=>
 q7d F x_1 c_2 o
def q4w(F:Nat)(x_1:bO)(s_2:aQ):Option bO:=
 (q5o F x_1 s_2).bind fun x_3=>
 if (x_3.2 != 0)=true then
 (qf F x_1 ({s_2 with ae:=21,bT:=0,ab:=0,bK:=0,dh:=0,cZ:=0,aA:=0,Result:=x_3.2,ao:=(jP.mk 0 0 0 0 0)})).bind fun cu=>
 some cu
 else
 (q17 F x_1).bind fun fO=>
 (qf F x_1 (aQ.mk 21 s_2.ID 0 fO.1 0 x_3.1.dh x_3.1.cZ x_3.1.aA 0 (jP.mk 0 0 0 0 0))).bind fun jr=>
 (q2z F jr (aM.mk fO.1 s_2.ab s_2.bT x_3.1.dh x_3.1.cZ s_2.dh s_2.cZ s_2.aA x_3.1.aA x_3.1.aA [] 0 [] 0 false)).bind fun jq=>
 some jq
def q4x(F:Nat)(x_1:bO)(s_2:aQ):Option bO:=
 (q15 F x_1 s_2).bind fun x_3=>
 if (!x_3.2.1)=true then
 some x_3.2.2
 else
 if (s_2.Result != 0)=true then
 (qe F x_3.2.2 (iw.mk 5 x_3.1.ab [] s_2.Result (jP.mk 0 0 0 0 0) 0)).bind fun cu=>
 some cu
 else
 (q1e F x_3.2.2 s_2.ab).bind fun fO=>
 if (decide (fO>=0))=true then
 (qe F x_3.2.2 (iw.mk 5 x_3.1.ab [] 9 (jP.mk 0 0 0 0 0) 0)).bind fun jr=>
 some jr
 else
 (q2z F x_3.2.2 (aM.mk x_3.1.ab s_2.ab x_3.1.bT x_3.1.dh x_3.1.cZ s_2.dh s_2.cZ s_2.aA x_3.1.aA x_3.1.aA [] 0 [] 0 false)).bind fun jq=>
 some jq
def q30(_:Nat)(QG Li:Int):Option Int:=
 if (decide (Li<1))=true then
 some 5
 else
 if (decide (Li>aL (65535-QG)))=true then
 some 19
 else
 some 0
def q66(_:Nat)(x_3:aM)(cu:Int)(c_7:aM):Option (aM×Int):=
 some ({x_3 with aG:=c_7.aG,ba:=c_7.ba},cu)
def q3q(F:Nat)(c_1:aM)(Li:Int):Option (aM×Int):=
 (qt F c_1).bind fun x_3=>
 if x_3.ba=true then
 some (x_3,9)
 else
 (q30 F x_3.aG Li).bind fun cu=>
 if (cu==0)=true then
 q66 F x_3 cu ({x_3 with aG:=aL (x_3.aG+Li)})
 else
 q66 F x_3 cu ({x_3 with ba:=true})
def XH(F:Nat)(x_1:bO)(wT:Int):Option bO:=
 (idx x_1.aD.aj wT).bind fun x_3=>
 (qr F x_1 x_3).bind fun cu=>
 if (!cu)=true then
 (q1a F x_1 (aQ.mk 6 0 0 x_3.ap x_3.al 0 0 0 0 (jP.mk 0 0 0 0 0))).bind fun fO=>
 some fO
 else
 some x_1
def q7e(F:Nat)(x_1:bO)(x_3 oM:Int)(l_23:List aM):Option bO:=
 if (oM != 0)=true then
 (XH F ({x_1 with aD:={x_1.aD with aj:=l_23}}) x_3).bind fun OT=>
 some OT
 else
 some ({x_1 with aD:={x_1.aD with aj:=l_23}})
def q7f(F:Nat)(x_1:bO)(x_3:Int)(c_21:aM)(oM:Int):Option bO:=
 (idx x_1.aD.aj x_3).bind fun _=>
 (upd x_1.aD.aj x_3 c_21).bind fun l_28=>
 q7e F x_1 x_3 oM l_28
def q4y(F:Nat)(x_1:bO)(s_2:aQ):Option bO:=
 (q1e F x_1 s_2.ab).bind fun x_3=>
 (if (decide (x_3<0))=true then
 some true
 else
 (idx x_1.aD.aj x_3).bind fun aaM=>
 (qr F x_1 aaM).bind fun aaL=>
 some aaL).bind fun z_5=>
 if z_5=true then
 some x_1
 else
 (idx x_1.aD.aj x_3).bind fun _=>
 (idx x_1.aD.aj x_3).bind fun ad6=>
 (q3q F ad6 s_2.aA).bind fun Zf=>
 q7f F x_1 x_3 Zf.1 Zf.2
def q7g(_:Nat)(ac6:bO):Option bO:=
 some ac6
def q1w(F:Nat)(x_1:bO)(uz:List Int):Option bO:=
 (q3m F uz).bind fun x_3=>
 if (x_3.2 != 0)=true then
 (if (decide ((len uz)>=2))=true then
 (idx uz 1).bind fun I5=>
 some (I5 != 0)
 else
 some false).bind fun Lr=>
 (if Lr=true then
 (idx uz 0).bind fun OT=>
 some (OT != 1)
 else
 some false).bind fun z_20=>
 if z_20=true then
 (idx uz 1).bind fun lu=>
 (qf F x_1 (aQ.mk 1 (aL lu) 0 0 0 0 0 0 0 (jP.mk 0 0 0 0 0))).bind fun oM=>
 q7g F oM
 else
 q7g F x_1
 else
 if ((x_3.1.ae==1)||((x_3.1.ae==6)||((x_3.1.ae==7)||((x_3.1.ae==18)||((x_3.1.ae==19)||((x_3.1.ae==20)||((x_3.1.ae==21)||(x_3.1.ae==22))))))))=true then
 (q3n F).bind fun _=>
 if (x_3.1.ae==1)=true then
 (q4n F x_1 x_3.1).bind fun rU=>
 some rU
 else
 if (x_3.1.ae==6)=true then
 (q4o F x_1 x_3.1).bind fun o7=>
 some o7
 else
 if (x_3.1.ae==7)=true then
 (q4p F x_1 x_3.1).bind fun jy=>
 some jy
 else
 if (x_3.1.ae==18)=true then
 (q4q F x_1 x_3.1).bind fun AV=>
 some AV
 else
 if (x_3.1.ae==19)=true then
 (q4r F x_1 x_3.1).bind fun Rw=>
 some Rw
 else
 if (x_3.1.ae==20)=true then
 (q4w F x_1 x_3.1).bind fun I4=>
 some I4
 else
 if (x_3.1.ae==21)=true then
 (q4x F x_1 x_3.1).bind fun Wx=>
 some Wx
 else
 if (x_3.1.ae==22)=true then
 (q4y F x_1 x_3.1).bind fun aaE=>
 some aaE
 else
 none
 else
 (q3n F).bind fun _=>
 some x_1
def q8u(_:Nat)(c_1:aM)(uz:List Int):Option (List Int×Int×Int):=
 some (uz,c_1.bi,0)
def q7h(_:Nat)(c_1:aM)(uz:List Int)(fO:Int):Option (List Int×Int×Int):=
 if ((decide (fO>c_1.dh))||(decide (fO<aL ((len uz)-2))))=true then
 some ([],0,4)
 else
 (sub uz 2 (len uz)).bind fun Qk=>
 some (Qk,fO,0)
def q4z(F:Nat)(c_1:aM)(uz:List Int):Option (List Int×Int×Int):=
 if (decide (c_1.aC<=0))=true then
 some ([],0,19)
 else
 if (decide (len uz>c_1.cZ))=true then
 some ([],0,4)
 else
 if (c_1.bi != (-1))=true then
 if (len uz==0)=true then
 some ([],0,3)
 else
 if (decide (aL (len c_1.In+len uz)>c_1.bi))=true then
 some ([],0,4)
 else
 q8u F c_1 uz
 else
 if (decide (len uz<2))=true then
 some ([],0,3)
 else
 (idx uz 0).bind fun jq=>
 (idx uz 1).bind fun EO=>
 q7h F c_1 uz (vK .i64 (aL jq) (mJ .i64 (aL EO) 8))
def q50(F:Nat)(c_1:aM)(uz:List Int):Option (aM×List (List Int)×Int):=
 (qt F c_1).bind fun x_3=>
 if x_3.ba=true then
 some (x_3,[],9)
 else
 (q4z F x_3 uz).bind fun cu=>
 if (cu.2.2 != 0)=true then
 some ({x_3 with ba:=true},[],cu.2.2)
 else
 (qa F [x_3.In,cu.1]).bind fun fO=>
 if (decide (len fO<cu.2.1))=true then
 some ({x_3 with aC:=aL (x_3.aC-1),In:=fO,bi:=cu.2.1},[],0)
 else
 some ({x_3 with aC:=aL (x_3.aC-1),In:=[],bi:=(-1)},[fO],0)
def q67(_:Nat)(x_3:aM)(cu fO:Int):Option (aM×Int):=
 some ({x_3 with aC:=fO},cu)
def q51(F:Nat)(c_1:aM)(Li:Int):Option (aM×Int):=
 (qt F c_1).bind fun x_3=>
 if x_3.ba=true then
 some (x_3,9)
 else
 (q30 F x_3.aC Li).bind fun cu=>
 if (cu==0)=true then
 q67 F x_3 cu (aL (x_3.aC+Li))
 else
 q67 F x_3 cu x_3.aC
def q7i(_:Nat)(ac6:bO):Option bO:=
 some ac6
def q7j(F:Nat)(iK:aM×List (List Int)×Int)(jd:bO)(jy:aM×Int)(l_37:List aM):Option bO:=
 (q1p F ({jd with aD:={jd.aD with aj:=l_37}})).bind fun Wx=>
 (qf F Wx.2 (aQ.mk 22 Wx.1 0 jy.1.ap 0 0 0 (aL (iK.1.bd-iK.1.aC)) 0 (jP.mk 0 0 0 0 0))).bind fun aaE=>
 q7i F aaE
def q7k(F:Nat)(wT:Int)(iK:aM×List (List Int)×Int)(jd:bO):Option bO:=
 (if (decide (aL (iK.1.bd-iK.1.aC)<=0))=true then
 some true
 else
 some (decide (iK.1.aC>(PL .i64 iK.1.bd 2)))).bind fun AU=>
 if AU=true then
 some jd
 else
 (q51 F iK.1 (aL (iK.1.bd-iK.1.aC))).bind fun jy=>
 if (jy.2==0)=true then
 (idx jd.aD.aj wT).bind fun _=>
 (upd jd.aD.aj wT jy.1).bind fun l_45=>
 q7j F iK jd jy l_45
 else
 q7i F jd
def Wm(F:Nat)(iK:aM×List (List Int)×Int)(YL:bO)(aay:Int):Option (Out (bO×Int) bO):=
 if (decide (aay<len iK.2.1))=true then
 (idx iK.2.1 aay).bind fun x_61=>
 (qe F YL (iw.mk 3 iK.1.ap x_61 0 (jP.mk 0 0 0 0 0) 0)).bind fun x_62=>
 some (.next (x_62,aL (aay+1)))
 else
 some (.done YL)
def q7l(F:Nat)(x_1:bO)(wT:Int)(iK:aM×List (List Int)×Int)(zV:List aM):Option bO:=
 if (iK.2.2 != 0)=true then
 (XH F ({x_1 with aD:={x_1.aD with aj:=zV}}) wT).bind fun kF=>
 some kF
 else
 (iter (fun s=>Wm F iK s.1 s.2) F ({x_1 with aD:={x_1.aD with aj:=zV}},0)).bind fun o=>
 q7k F wT iK o
def q3r(F:Nat)(x_1:bO)(wT:Int)(b_3:List Int):Option bO:=
 (idx x_1.aD.aj wT).bind fun iP=>
 (q50 F iP b_3).bind fun iK=>
 (idx x_1.aD.aj wT).bind fun _=>
 (upd x_1.aD.aj wT iK.1).bind fun l_66=>
 q7l F x_1 wT iK l_66
def q7m(_:Nat)(xw:bO):Option (aJ×List iw):=
 some (xw.aD,xw.ar)
def q7n(F:Nat)(xw:bO):Option (aJ×List iw):=
 q7m F xw
def q52(_:Nat)(jy:Int)(c_49:bO):Option (Out (bO×Int) bO):=
 some (.next (c_49,aL (jy+1)))
def Xy(F:Nat)(xP:List bq)(zY:bO)(jy:Int):Option (Out (bO×Int) bO):=
 if (decide (jy<len xP))=true then
 (idx xP jy).bind fun IZ=>
 (q14 F zY IZ.aY).bind fun aaA=>
 if ((IZ.aY==4)||(IZ.aY==6))=true then
 (qe F zY (iw.mk 1 IZ.aY IZ.am 0 (jP.mk 0 0 0 0 0) 0)).bind fun x_52=>
 q52 F jy x_52
 else
 if (IZ.aY==5)=true then
 (q1w F zY IZ.am).bind fun x_53=>
 q52 F jy x_53
 else
 (if (decide (aaA>=0))=true then
 (idx zY.aD.aj aaA).bind fun x_58=>
 (qr F zY x_58).bind fun Gt=>
 some (!Gt)
 else
 some false).bind fun z_55=>
 if z_55=true then
 (q3r F zY aaA IZ.am).bind fun Rv=>
 q52 F jy Rv
 else
 q52 F jy zY
 else
 some (.done zY)
def q7o(F:Nat)(x_3:bO)(Lp:kV)(xP:List bq):Option (aJ×List iw):=
 (iter (fun s=>Xy F xP s.1 s.2) F ({x_3 with aD:={x_3.aD with ay:=Lp}},0)).bind fun o=>
 q7n F o
def ql(F:Nat)(m_1:aJ)(nP:eY):Option (aJ×List iw):=
 (qg F m_1).bind fun x_3=>
 (q3l F x_3.aD.ay nP).bind fun Zg=>
 q7o F x_3 Zg.1 Zg.2.1
def q1h(F:Nat)(m_1:aJ)(nK:Int)(b_3:List Int):Option (aJ×Int):=
 (qg F m_1).bind fun cu=>
 if ((nK != 4)&&(nK != 6))=true then
 some (cu.aD,5)
 else
 if (decide (len b_3>4096))=true then
 some (cu.aD,4)
 else
 (qy F cu).bind fun fO=>
 if fO=true then
 some (cu.aD,8)
 else
 (q19 F cu nK b_3).bind fun jr=>
 some (jr.aD,0)
def q31(F:Nat)(x_1:bO)(nK:Int):Option (Int×Int):=
 (q14 F x_1 nK).bind fun x_3=>
 if (decide (x_3<0))=true then
 some (0,6)
 else
 (idx x_1.aD.aj x_3).bind fun cu=>
 (qr F x_1 cu).bind fun fO=>
 if fO=true then
 some (0,9)
 else
 some (x_3,0)
def q7p(_:Nat)(x_3:aM)(NW:List (List Int)):Option (aM×Int):=
 some ({x_3 with Out:=NW},0)
def q53(F:Nat)(c_1:aM)(Zo:List Int):Option (aM×Int):=
 (qt F c_1).bind fun x_3=>
 if x_3.ba=true then
 some (x_3,9)
 else
 if (decide (len Zo>x_3.gu))=true then
 some (x_3,4)
 else
 if (decide ((len x_3.Out)>=64))=true then
 some (x_3,8)
 else
 (qa F [Zo]).bind fun jq=>
 (app 24 x_3.Out [jq]).bind fun Ll=>
 q7p F x_3 Ll
def q8v(_:Nat)(cu:bO)(Ll:List aM):Option (aJ×Int):=
 some ({cu.aD with aj:=Ll},0)
def q1i(F:Nat)(m_1:aJ)(nK:Int)(b_3:List Int):Option (aJ×Int):=
 (qg F m_1).bind fun cu=>
 (q31 F cu nK).bind fun fO=>
 if (fO.2 != 0)=true then
 some (cu.aD,fO.2)
 else
 (idx cu.aD.aj fO.1).bind fun jr=>
 (q53 F jr b_3).bind fun jq=>
 if (jq.2 != 0)=true then
 some (cu.aD,jq.2)
 else
 (idx cu.aD.aj fO.1).bind fun _=>
 (upd cu.aD.aj fO.1 jq.1).bind fun l_12=>
 q8v F cu l_12
def qm(_:Nat)(a_1 uz:List Int):Option Bool:=
 some (str a_1==str uz)
def q1y(F:Nat):Option Bool:=
 (q12 F 0 []).bind fun x_1=>
 (q12 F 1 []).bind fun x_2=>
 (q1b F x_1.1 128 40 30 4).bind fun x_3=>
 (qz F x_3.1).bind fun cu=>
 (ql F x_2.1 cu.2.1).bind fun fO=>
 (qz F fO.1).bind fun jr=>
 (ql F cu.1 jr.2.1).bind fun jq=>
 (q1h F cu.1 5 []).bind fun EO=>
 (q1i F cu.1 64 []).bind fun qE=>
 if ((((((((x_1.2 != 0)||(x_2.2 != 0))||(x_3.2.2 != 0))||(x_3.2.1 != 64))||(!cu.2.2))||((len jq.2) != 1))||(EO.2 != 5))||(qE.2 != 6))=true then
 some false
 else
 (if (cu.2.1.dV==2)=true then
 (qm F cu.2.1.am [14,0,5,0,20,1,10,0,128,0,64,0,40,0,30,0,4,0]).bind fun aaG=>
 some aaG
 else
 some false).bind fun aau=>
 (if aau=true then
 (idx jq.2 0).bind fun xS=>
 some (xS.ae==5)
 else
 some false).bind fun aas=>
 (if aas=true then
 (idx jq.2 0).bind fun lu=>
 some (lu.aY==64)
 else
 some false).bind fun z_15=>
 (if z_15=true then
 (idx jq.2 0).bind fun oN=>
 some (oN.Result==2)
 else
 some false).bind fun z_17=>
 some z_17
def qb(_:Nat)(Du:Int):Option Int:=
 some (aL (iE Du 64))
def q32(F:Nat)(m_1:aJ)(nK:Int):Option (aJ×Int):=
 (qg F m_1).bind fun x_3=>
 (q31 F x_3 nK).bind fun cu=>
 if (cu.2 != 0)=true then
 some (x_3.aD,cu.2)
 else
 (qy F x_3).bind fun fO=>
 if fO=true then
 some (x_3.aD,8)
 else
 (XH F x_3 cu.1).bind fun jr=>
 some (jr.aD,0)
def q5p(_:Nat)(s_1:aQ):Option Bool:=
 some (s_1.ae==18)
def q8w(_:Nat):Option Int:=
 some (-1)
def Zz(F:Nat)(s_1:List aQ)(x_2:Int):Option (Out Int (Sum Unit Int)):=
 if (decide (x_2<len s_1))=true then
 (idx s_1 x_2).bind fun x_3=>
 (q5p F x_3).bind fun cu=>
 if cu=true then
 some (.done (.inr x_2))
 else
 some (.next (aL (x_2+1)))
 else
 some (.done (.inl ()))
def q5q(F:Nat)(s_1:List aQ):Option Int:=
 (iter (fun s=>Zz F s_1 s) F 0).bind fun o=>
 match o with
 | .inl _=>q8w F
 | .inr u=>some u
def q54(F:Nat)(s_1:List aQ):Option Bool:=
 (q5q F s_1).bind fun x_2=>
 some (decide (x_2>=0))
def q34(F:Nat)(m_1:aJ)(u_2:jP):Option (aJ×Int):=
 (qg F m_1).bind fun x_3=>
 if (x_3.aD.jm != 1)=true then
 some (x_3.aD,9)
 else
 (q2j F u_2).bind fun cu=>
 if (cu != 0)=true then
 some (x_3.aD,cu)
 else
 (q54 F x_3.aD.aB).bind fun fO=>
 if fO=true then
 some (x_3.aD,20)
 else
 (qy F x_3).bind fun jr=>
 if jr=true then
 some (x_3.aD,8)
 else
 (q1a F x_3 (aQ.mk 18 0 0 0 0 0 0 0 0 u_2)).bind fun jq=>
 some (jq.aD,0)
def q8x(_:Nat)(aW yT:bA)(Lr:Bool):Option (Bool×bA):=
 some (Lr,{aW with ai:=(yT.ai.1,aW.ai.2),aP:=(yT.aP.1,aW.aP.2),au:=yT.au,ah:=yT.ah})
def q7q(_:Nat)(aW jd:bA)(rU:Int)(AU:Bool)(jy:aJ×eY×Bool):Option (Out (bA×Int×Bool) (Sum (bA×Bool) (Bool×bA))):=
 if (!jy.2.2)=true then
 some (.done (.inr (AU,{aW with ai:=(jy.1,aW.ai.2),aP:=(jd.aP.1,aW.aP.2),au:=jd.au,ah:=jd.ah})))
 else
 (app 32 jd.aP.1 [jy.2.1]).bind fun abX=>
 some (.next ({aW with ai:=(jy.1,aW.ai.2),aP:=(abX,aW.aP.2),au:=jd.au,ah:=jd.ah},aL (rU-1),true))
def q3s(F:Nat)(aW jd:bA)(rU:Int)(AU:Bool):Option (Out (bA×Int×Bool) (Sum (bA×Bool) (Bool×bA))):=
 if (decide (rU>0))=true then
 (qz F jd.ai.1).bind fun jy=>
 q7q F aW jd rU AU jy
 else
 some (.done (.inl ({aW with ai:=(jd.ai.1,aW.ai.2),aP:=(jd.aP.1,aW.aP.2),au:=jd.au,ah:=jd.ah},AU)))
def q35(F:Nat)(aW:bA)(Li:Int):Option (Bool×bA):=
 (iter (fun s=>q3s F aW s.1 s.2.1 s.2.2) F (aW,Li,false)).bind fun o=>
 match o with
 | .inl u=>q8x F aW u.1 u.2
 | .inr u=>some u
def q1j(F:Nat)(m_1:aJ)(id_2 Cg:Int):Option (aJ×Int):=
 (qg F m_1).bind fun cu=>
 if (cu.aD.jm != 0)=true then
 some (cu.aD,9)
 else
 (qn F id_2 1 255).bind fun fO=>
 if ((!fO)||((Cg != 0)&&(Cg != 1)))=true then
 some (cu.aD,5)
 else
 (qy F cu).bind fun jr=>
 if jr=true then
 some (cu.aD,8)
 else
 (qf F cu (aQ.mk 19 id_2 0 0 0 0 0 0 Cg (jP.mk 0 0 0 0 0))).bind fun jq=>
 some (jq.aD,0)
def Wl(_:Nat)(aW xw:bA):Option bA:=
 some ({xw with ai:=(aW.ai.1,xw.ai.2),aP:=aW.aP,aw:=(xw.aw.1,aW.aw.2),frame:=aW.frame})
def q5r(F:Nat)(aW:bA)(aao:Bool):Option bA:=
 if aao=true then
 some ({aW with frame:=true})
 else
 (sub aW.aw.1 1 (len aW.aw.1)).bind fun abY=>
 Wl F aW ({aW with aw:=(abY,aW.aw.2)})
def q8y(F:Nat)(aW Vh:bA):Option bA:=
 Wl F aW ({aW with au:=Vh.au,ah:=Vh.ah,data:=true})
def q68(_:Nat)(aW gZ:bA)(sw:Int)(adk:(Nat->List (List Int))):Option (Out (bA×Int) (Sum bA bA)):=
 some (.next ({aW with au:=adk,ah:=gZ.ah},aL (sw+1)))
def Zy(F:Nat)(aW:bA)(x_2:iw)(gZ:bA)(sw:Int):Option (Out (bA×Int) (Sum bA bA)):=
 if (decide (sw<len aW.ai.2.aj))=true then
 (idx aW.ai.2.aj sw).bind fun DV=>
 (qb F DV.al).bind fun aaB=>
 (IQ 64 aaB).bind fun jF=>
 if ((DV.ap==x_2.aY)&&(decide (len (gZ.au jF)>0)))=true then
 (idx (gZ.au jF) 0).bind fun aaz=>
 (qm F aaz x_2.bk).bind fun Rv=>
 if Rv=true then
 (sub (gZ.au jF) 1 (len (gZ.au jF))).bind fun abV=>
 some (.done (.inr ({aW with au:=(aH (aH gZ.au jF []) jF abV),ah:=gZ.ah})))
 else
 q68 F aW gZ sw (aH (aH gZ.au jF []) jF (gZ.au jF))
 else
 q68 F aW gZ sw (aH (aH gZ.au jF []) jF (gZ.au jF))
 else
 some (.done (.inl ({aW with au:=gZ.au,ah:=gZ.ah})))
def q7r(F:Nat)(aW:bA)(Dv:aJ)(su:Int):Option bA:=
 if (su != 0)=true then
 Wl F aW ({aW with ai:=(aW.ai.1,Dv),params:=(-1000)})
 else
 Wl F aW ({aW with ai:=(aW.ai.1,Dv)})
def q7s(F:Nat)(aW:bA)(Dv:aJ)(su:Int):Option bA:=
 q7r F aW Dv su
def q3t(F:Nat)(aW:bA)(x_2:iw):Option bA:=
 (qb F x_2.aY).bind fun lu=>
 if (x_2.ae==2)=true then
 (IQ 64 lu).bind fun T9=>
 Wl F aW ({aW with au:=(aH aW.au (64+T9) []),ah:=(aH aW.ah (64+T9) false)})
 else
 if (x_2.ae==5)=true then
 (if aW.answer=true then
 some true
 else
 (IQ 64 lu).bind fun TY=>
 some (!(aW.ah (64+TY)))).bind fun aap=>
 (IQ 64 lu).bind fun acj=>
 Wl F aW ({aW with ah:=(aH aW.ah (64+acj) false),answer:=aap})
 else
 if (x_2.ae==1)=true then
 if (len aW.aw.1==0)=true then
 q5r F aW true
 else
 (idx aW.aw.1 0).bind fun o7=>
 if (o7.aY != x_2.aY)=true then
 q5r F aW true
 else
 (idx aW.aw.1 0).bind fun AV=>
 (qm F AV.am x_2.bk).bind fun Rw=>
 q5r F aW (!Rw)
 else
 if (x_2.ae==3)=true then
 (iter (fun s=>Zy F aW x_2 s.1 s.2) F (aW,0)).bind fun o=>
 match o with
 | .inl u=>q8y F aW u
 | .inr u=>some u
 else
 if (x_2.ae==6)=true then
 (q1j F aW.ai.2 x_2.ID (iE x_2.ao.aO 2)).bind fun AZ=>
 q7s F aW AZ.1 AZ.2
 else
 if (x_2.ae==7)=true then
 Wl F aW ({aW with params:=aL (aW.params-1),answer:=(aW.answer||(aL (aW.params-1)==(-1)))})
 else
 Wl F aW aW
def q8z(_:Nat)(zY:bA):Option bA:=
 some zY
def q7t(_:Nat)(oL:Int)(Vl:bA):Option (Out (bA×Int) bA):=
 some (.next (Vl,aL (oL-1)))
def q69(F:Nat)(l6:List iw)(KU:bA)(AX:Int):Option (Out (bA×Int) bA):=
 if (decide (AX<len l6))=true then
 (idx l6 AX).bind fun RA=>
 (q3t F KU RA).bind fun Rz=>
 some (.next (Rz,aL (AX+1)))
 else
 some (.done KU)
def q7u(F:Nat)(iT:bA)(oL:Int)(tK:aJ)(l6:List iw)(CY:List eY):Option (Out (bA×Int) bA):=
 (iter (fun s=>q69 F l6 s.1 s.2) F ({iT with ai:=(iT.ai.1,tK),aP:=(CY,iT.aP.2)},0)).bind fun o=>
 q7t F oL o
def q7v(F:Nat)(iT:bA)(oL:Int)(tK:aJ)(l6:List iw)(CY:List eY):Option (Out (bA×Int) bA):=
 q7u F iT oL tK l6 CY
def q7w(F:Nat)(iT:bA)(oL:Int)(tK:aJ)(l6:List iw):Option (Out (bA×Int) bA):=
 (sub iT.aP.1 1 (len iT.aP.1)).bind fun TV=>
 q7v F iT oL tK l6 TV
def Zx(F:Nat)(iT:bA)(oL:Int):Option (Out (bA×Int) bA):=
 if ((decide (oL>0))&&(decide (len iT.aP.1>0)))=true then
 (idx iT.aP.1 0).bind fun _=>
 (idx iT.aP.1 0).bind fun Lv=>
 (ql F iT.ai.2 Lv).bind fun AY=>
 q7w F iT oL AY.1 AY.2
 else
 some (.done iT)
def q38(F:Nat)(aW:bA)(Li:Int):Option bA:=
 (iter (fun s=>Zx F s.1 s.2) F (aW,Li)).bind fun o=>
 q8z F o
def q39(F:Nat)(m_1:aJ)(X5:Int):Option aJ:=
 (qg F m_1).bind fun x_3=>
 some ({x_3.aD with bh:=imax 0 (cO X5 2)})
def q90(_:Nat)(aW yT:bA)(Lr:Bool):Option (Bool×bA):=
 some (Lr,{aW with ai:=(aW.ai.1,yT.ai.2),aP:=(aW.aP.1,yT.aP.2),au:=yT.au,ah:=yT.ah})
def q7x(_:Nat)(aW jd:bA)(rU:Int)(AU:Bool)(jy:aJ×eY×Bool):Option (Out (bA×Int×Bool) (Sum (bA×Bool) (Bool×bA))):=
 if (!jy.2.2)=true then
 some (.done (.inr (AU,{aW with ai:=(aW.ai.1,jy.1),aP:=(aW.aP.1,jd.aP.2),au:=jd.au,ah:=jd.ah})))
 else
 (app 32 jd.aP.2 [jy.2.1]).bind fun abX=>
 some (.next ({aW with ai:=(aW.ai.1,jy.1),aP:=(aW.aP.1,abX),au:=jd.au,ah:=jd.ah},aL (rU-1),true))
def q3u(F:Nat)(aW jd:bA)(rU:Int)(AU:Bool):Option (Out (bA×Int×Bool) (Sum (bA×Bool) (Bool×bA))):=
 if (decide (rU>0))=true then
 (qz F jd.ai.2).bind fun jy=>
 q7x F aW jd rU AU jy
 else
 some (.done (.inl ({aW with ai:=(aW.ai.1,jd.ai.2),aP:=(aW.aP.1,jd.aP.2),au:=jd.au,ah:=jd.ah},AU)))
def q3a(F:Nat)(aW:bA)(Li:Int):Option (Bool×bA):=
 (iter (fun s=>q3u F aW s.1 s.2.1 s.2.2) F (aW,Li,false)).bind fun o=>
 match o with
 | .inl u=>q90 F aW u.1 u.2
 | .inr u=>some u
def Wj(_:Nat)(aW xw:bA):Option bA:=
 some ({xw with ai:=(xw.ai.1,aW.ai.2),aP:=aW.aP,aw:=(aW.aw.1,xw.aw.2),frame:=aW.frame})
def q5s(F:Nat)(aW:bA)(aao:Bool):Option bA:=
 if aao=true then
 some ({aW with frame:=true})
 else
 (sub aW.aw.2 1 (len aW.aw.2)).bind fun abY=>
 Wj F aW ({aW with aw:=(aW.aw.1,abY)})
def q91(F:Nat)(aW Vh:bA):Option bA:=
 Wj F aW ({aW with au:=Vh.au,ah:=Vh.ah,data:=true})
def q6a(_:Nat)(aW gZ:bA)(sw:Int)(adk:(Nat->List (List Int))):Option (Out (bA×Int) (Sum bA bA)):=
 some (.next ({aW with au:=adk,ah:=gZ.ah},aL (sw+1)))
def Zw(F:Nat)(aW:bA)(x_2:iw)(gZ:bA)(sw:Int):Option (Out (bA×Int) (Sum bA bA)):=
 if (decide (sw<len aW.ai.1.aj))=true then
 (idx aW.ai.1.aj sw).bind fun DV=>
 (qb F DV.al).bind fun aaB=>
 (IQ 64 aaB).bind fun jF=>
 if ((DV.ap==x_2.aY)&&(decide (len (gZ.au (64+jF))>0)))=true then
 (idx (gZ.au (64+jF)) 0).bind fun aaz=>
 (qm F aaz x_2.bk).bind fun Rv=>
 if Rv=true then
 (sub (gZ.au (64+jF)) 1 (len (gZ.au (64+jF)))).bind fun abV=>
 some (.done (.inr ({aW with au:=(aH (aH gZ.au (64+jF) []) (64+jF) abV),ah:=gZ.ah})))
 else
 q6a F aW gZ sw (aH (aH gZ.au (64+jF) []) (64+jF) (gZ.au (64+jF)))
 else
 q6a F aW gZ sw (aH (aH gZ.au (64+jF) []) (64+jF) (gZ.au (64+jF)))
 else
 some (.done (.inl ({aW with au:=gZ.au,ah:=gZ.ah})))
def q7y(F:Nat)(aW:bA)(Dv:aJ)(su:Int):Option bA:=
 if (su != 0)=true then
 Wj F aW ({aW with ai:=(Dv,aW.ai.2),params:=(-1000)})
 else
 Wj F aW ({aW with ai:=(Dv,aW.ai.2)})
def q7z(F:Nat)(aW:bA)(Dv:aJ)(su:Int):Option bA:=
 q7y F aW Dv su
def q3v(F:Nat)(aW:bA)(x_2:iw):Option bA:=
 (qb F x_2.aY).bind fun lu=>
 if (x_2.ae==2)=true then
 (IQ 64 lu).bind fun T9=>
 Wj F aW ({aW with au:=(aH aW.au T9 []),ah:=(aH aW.ah T9 false)})
 else
 if (x_2.ae==5)=true then
 (if aW.answer=true then
 some true
 else
 (IQ 64 lu).bind fun TY=>
 some (!(aW.ah TY))).bind fun aap=>
 (IQ 64 lu).bind fun acj=>
 Wj F aW ({aW with ah:=(aH aW.ah acj false),answer:=aap})
 else
 if (x_2.ae==1)=true then
 if (len aW.aw.2==0)=true then
 q5s F aW true
 else
 (idx aW.aw.2 0).bind fun o7=>
 if (o7.aY != x_2.aY)=true then
 q5s F aW true
 else
 (idx aW.aw.2 0).bind fun AV=>
 (qm F AV.am x_2.bk).bind fun Rw=>
 q5s F aW (!Rw)
 else
 if (x_2.ae==3)=true then
 (iter (fun s=>Zw F aW x_2 s.1 s.2) F (aW,0)).bind fun o=>
 match o with
 | .inl u=>q91 F aW u
 | .inr u=>some u
 else
 if (x_2.ae==6)=true then
 (q1j F aW.ai.1 x_2.ID (iE x_2.ao.aO 2)).bind fun AZ=>
 q7z F aW AZ.1 AZ.2
 else
 if (x_2.ae==7)=true then
 Wj F aW ({aW with params:=aL (aW.params-1),answer:=(aW.answer||(aL (aW.params-1)==(-1)))})
 else
 Wj F aW aW
def q92(_:Nat)(zY:bA):Option bA:=
 some zY
def q80(_:Nat)(oL:Int)(Vl:bA):Option (Out (bA×Int) bA):=
 some (.next (Vl,aL (oL-1)))
def q6b(F:Nat)(l6:List iw)(KU:bA)(AX:Int):Option (Out (bA×Int) bA):=
 if (decide (AX<len l6))=true then
 (idx l6 AX).bind fun RA=>
 (q3v F KU RA).bind fun Rz=>
 some (.next (Rz,aL (AX+1)))
 else
 some (.done KU)
def q81(F:Nat)(iT:bA)(oL:Int)(tK:aJ)(l6:List iw)(CY:List eY):Option (Out (bA×Int) bA):=
 (iter (fun s=>q6b F l6 s.1 s.2) F ({iT with ai:=(tK,iT.ai.2),aP:=(iT.aP.1,CY)},0)).bind fun o=>
 q80 F oL o
def q82(F:Nat)(iT:bA)(oL:Int)(tK:aJ)(l6:List iw)(CY:List eY):Option (Out (bA×Int) bA):=
 q81 F iT oL tK l6 CY
def q83(F:Nat)(iT:bA)(oL:Int)(tK:aJ)(l6:List iw):Option (Out (bA×Int) bA):=
 (sub iT.aP.2 1 (len iT.aP.2)).bind fun TV=>
 q82 F iT oL tK l6 TV
def Zv(F:Nat)(iT:bA)(oL:Int):Option (Out (bA×Int) bA):=
 if ((decide (oL>0))&&(decide (len iT.aP.2>0)))=true then
 (idx iT.aP.2 0).bind fun _=>
 (idx iT.aP.2 0).bind fun Lv=>
 (ql F iT.ai.1 Lv).bind fun AY=>
 q83 F iT oL AY.1 AY.2
 else
 some (.done iT)
def q3d(F:Nat)(aW:bA)(Li:Int):Option bA:=
 (iter (fun s=>Zv F s.1 s.2) F (aW,Li)).bind fun o=>
 q92 F o
def qj(_:Nat)(aW c_8:bA)(xw:aJ):Option bA:=
 some ({aW with ai:=(xw,aW.ai.2),au:=c_8.au,aw:=(c_8.aw.1,aW.aw.2),ah:=c_8.ah,params:=c_8.params})
def qk(_:Nat)(aW YM:bA)(c_64:aJ):Option bA:=
 some ({aW with ai:=(aW.ai.1,c_64),au:=YM.au,aw:=(aW.aw.1,YM.aw.2),ah:=YM.ah,params:=YM.params})
def q1z(F:Nat)(aW:bA)(x_2:F7):Option bA:=
 if (aL (iE x_2.bj 2)==0)=true then
 if (x_2.ae==0)=true then
 (q1b F aW.ai.1 x_2.bT x_2.dh x_2.cZ x_2.aA).bind fun xS=>
 if (xS.2.2==0)=true then
 (qb F xS.2.1).bind fun I5=>
 (IQ 64 I5).bind fun TY=>
 qj F aW ({aW with ah:=(aH aW.ah TY true)}) xS.1
 else
 qj F aW aW xS.1
 else
 if (x_2.ae==1)=true then
 (q32 F aW.ai.1 x_2.aY).bind fun Wy=>
 qj F aW aW Wy.1
 else
 if (x_2.ae==2)=true then
 (q1i F aW.ai.1 x_2.aY x_2.ax).bind fun Gu=>
 if (Gu.2==0)=true then
 (qb F x_2.aY).bind fun aaF=>
 (IQ 64 aaF).bind fun Ia=>
 (app 24 (aW.au Ia) [x_2.ax]).bind fun l_34=>
 qj F aW ({aW with au:=(aH (aH aW.au Ia []) Ia l_34)}) Gu.1
 else
 qj F aW aW Gu.1
 else
 if (x_2.ae==3)=true then
 (q1h F aW.ai.1 x_2.aY x_2.ax).bind fun I4=>
 if (I4.2==0)=true then
 (app 32 aW.aw.1 [bq.mk x_2.aY x_2.ax]).bind fun l_42=>
 qj F aW ({aW with aw:=(l_42,aW.aw.2)}) I4.1
 else
 qj F aW aW I4.1
 else
 if (x_2.ae==4)=true then
 (q34 F aW.ai.1 x_2.ao).bind fun aaD=>
 if (aaD.2==0)=true then
 qj F aW ({aW with params:=aL (aW.params+1)}) aaD.1
 else
 qj F aW aW aaD.1
 else
 if (x_2.ae==5)=true then
 (q35 F aW (aL x_2.N)).bind fun aaC=>
 some aaC.2
 else
 if (x_2.ae==6)=true then
 (q38 F aW (aL x_2.N)).bind fun sw=>
 some sw
 else
 if (x_2.ae==7)=true then
 (q39 F aW.ai.1 (aL x_2.N)).bind fun x_46=>
 qj F aW aW x_46
 else
 qj F aW aW aW.ai.1
 else
 if (aL (iE x_2.bj 2)==1)=true then
 if (x_2.ae==0)=true then
 (q1b F aW.ai.2 x_2.bT x_2.dh x_2.cZ x_2.aA).bind fun Ww=>
 if (Ww.2.2==0)=true then
 (qb F Ww.2.1).bind fun x_70=>
 (IQ 64 x_70).bind fun j_71=>
 qk F aW ({aW with ah:=(aH aW.ah (64+j_71) true)}) Ww.1
 else
 qk F aW aW Ww.1
 else
 if (x_2.ae==1)=true then
 (q32 F aW.ai.2 x_2.aY).bind fun x_72=>
 qk F aW aW x_72.1
 else
 if (x_2.ae==2)=true then
 (q1i F aW.ai.2 x_2.aY x_2.ax).bind fun su=>
 if (su.2==0)=true then
 (qb F x_2.aY).bind fun aax=>
 (IQ 64 aax).bind fun H9=>
 (app 24 (aW.au (64+H9)) [x_2.ax]).bind fun l_78=>
 qk F aW ({aW with au:=(aH (aH aW.au (64+H9) []) (64+H9) l_78)}) su.1
 else
 qk F aW aW su.1
 else
 if (x_2.ae==3)=true then
 (q1h F aW.ai.2 x_2.aY x_2.ax).bind fun aaw=>
 if (aaw.2==0)=true then
 (app 32 aW.aw.2 [bq.mk x_2.aY x_2.ax]).bind fun l_86=>
 qk F aW ({aW with aw:=(aW.aw.1,l_86)}) aaw.1
 else
 qk F aW aW aaw.1
 else
 if (x_2.ae==4)=true then
 (q34 F aW.ai.2 x_2.ao).bind fun Rt=>
 if (Rt.2==0)=true then
 qk F aW ({aW with params:=aL (aW.params+1)}) Rt.1
 else
 qk F aW aW Rt.1
 else
 if (x_2.ae==5)=true then
 (q3a F aW (aL x_2.N)).bind fun x_88=>
 some x_88.2
 else
 if (x_2.ae==6)=true then
 (q3d F aW (aL x_2.N)).bind fun x_89=>
 some x_89
 else
 if (x_2.ae==7)=true then
 (q39 F aW.ai.2 (aL x_2.N)).bind fun aav=>
 qk F aW aW aav
 else
 qk F aW aW aW.ai.2
 else
 none
def q93(_:Nat)(c_92:bA):Option (bA×Bool):=
 some (c_92,false)
def q6c(_:Nat)(I6:Int)(y7:Bool×bA)(ad1:Bool):Option (Out (bA×Int) (Sum bA (bA×Bool))):=
 if ad1=true then
 some (.done (.inr (y7.2,true)))
 else
 some (.next (y7.2,aL (I6+1)))
def Xx(F:Nat)(aae:bA)(I6:Int):Option (Out (bA×Int) (Sum bA (bA×Bool))):=
 if (decide (I6<20000))=true then
 (q38 F aae 100).bind fun aec=>
 (q3d F aec 100).bind fun aeb=>
 (q35 F aeb 20).bind fun Zj=>
 (q3a F Zj.2 20).bind fun y7=>
 if ((!Zj.1)&&(!y7.1))=true then
 q6c F I6 y7 (aL (len y7.2.aP.1+len y7.2.aP.2)==0)
 else
 q6c F I6 y7 false
 else
 some (.done (.inl aae))
def q84(F:Nat)(YL:bA):Option (bA×Bool):=
 (iter (fun s=>Xx F s.1 s.2) F (YL,0)).bind fun o=>
 match o with
 | .inl u=>q93 F u
 | .inr u=>some u
def Xw(F:Nat)(t_1:vH)(aad:bA)(Ry:Int):Option (Out (bA×Int) bA):=
 if (decide (Ry<len t_1.eZ))=true then
 (idx t_1.eZ Ry).bind fun aea=>
 (q1z F aad aea).bind fun ad9=>
 some (.next (ad9,aL (Ry+1)))
 else
 some (.done aad)
def q6d(F:Nat)(t_1:vH)(c_26:bA):Option (bA×Bool):=
 (iter (fun s=>Xw F t_1 s.1 s.2) F ({c_26 with aP:=(([]:List eY),([]:List eY)),aw:=(([]:List bq),([]:List bq)),params:=0,data:=false,frame:=false,answer:=false},0)).bind fun o=>
 q84 F o
def q85(_:Nat)(tJ agF:bA)(ad8:Int):Option (Out (bA×Int) (Sum bA (bA×Bool))):=
 some (.next ({tJ with ai:=agF.ai,aP:=(([]:List eY),([]:List eY)),aw:=(([]:List bq),([]:List bq)),params:=0,data:=false,frame:=false,answer:=false},aL (ad8+1)))
def qi(F:Nat)(t_1:vH)(tJ:bA)(Rx:Int):Option (Out (bA×Int) (Sum bA (bA×Bool))):=
 if (decide (Rx<2))=true then
 if (Rx==0)=true then
 (q12 F 0 t_1.ak.1).bind fun Zi=>
 if (Zi.2 != 0)=true then
 some (.done (.inr ({tJ with aP:=(([]:List eY),([]:List eY)),aw:=(([]:List bq),([]:List bq)),params:=0,data:=false,frame:=false,answer:=false},false)))
 else
 q85 F tJ ({tJ with ai:=({Zi.1 with Length:=t_1.bL.1},tJ.ai.2),aP:=(([]:List eY),([]:List eY)),aw:=(([]:List bq),([]:List bq)),params:=0,data:=false,frame:=false,answer:=false}) 0
 else
 if (Rx==1)=true then
 (q12 F 1 t_1.ak.2).bind fun Zh=>
 if (Zh.2 != 0)=true then
 some (.done (.inr ({tJ with aP:=(([]:List eY),([]:List eY)),aw:=(([]:List bq),([]:List bq)),params:=0,data:=false,frame:=false,answer:=false},false)))
 else
 q85 F tJ ({tJ with ai:=(tJ.ai.1,{Zh.1 with Length:=t_1.bL.2}),aP:=(([]:List eY),([]:List eY)),aw:=(([]:List bq),([]:List bq)),params:=0,data:=false,frame:=false,answer:=false}) 1
 else
 none
 else
 some (.done (.inl ({tJ with aP:=(([]:List eY),([]:List eY)),aw:=(([]:List bq),([]:List bq)),params:=0,data:=false,frame:=false,answer:=false})))
def q3w(F:Nat)(t_1:vH):Option (bA×Bool):=
 (iter (fun s=>qi F t_1 s.1 s.2) F (bA.mk (aJ.mk 0 0 [] [] [] 0 (kV.mk false []) [] 0 0,aJ.mk 0 0 [] [] [] 0 (kV.mk false []) [] 0 0) (([]:List eY),([]:List eY)) (fun _=>[]) (([]:List bq),([]:List bq)) (fun _=>false) 0 false false false,0)).bind fun o=>
 match o with
 | .inl u=>q6d F t_1 u
 | .inr u=>some u
def q3x(_:Nat)(Lj:Int):Option Bool:=
 some ((decide (Lj>=23))&&(decide (Lj<=4096)))
def q5t(_:Nat)(Lj:Int):Option Bool:=
 some ((decide (Lj>=0))&&(decide (Lj<=65535)))
def q86(_:Nat)(ni:Int)(bX:List fI):Option (aJ×Int):=
 (app 40 ([]:List fI) bX).bind fun Rk=>
 some (aJ.mk ni 0 Rk [] [] 1 (kV.mk false []) [] 0 27,0)
def q87(_:Nat)(cu:Int):Option (Out Int (Sum Unit (aJ×Int))):=
 some (.next (aL (cu+1)))
def q88(F:Nat)(cu:Int)(fO:fI):Option (Out Int (Sum Unit (aJ×Int))):=
 (q3x F fO.dh).bind fun jr=>
 (if (!jr)=true then
 some true
 else
 (q3x F fO.cZ).bind fun aaO=>
 some (!aaO)).bind fun z_8=>
 (if z_8=true then
 some true
 else
 (q5t F fO.aA).bind fun qH=>
 some (!qH)).bind fun Lu=>
 if ((Lu||(decide (fO.bh<0)))||(decide (fO.bh>2)))=true then
 some (.done (.inr (aJ.mk 0 0 [] [] [] 0 (kV.mk false []) [] 0 0,5)))
 else
 q87 F cu
def q89(_:Nat)(rV:Int)(aaq:Bool):Option (Out Int (Sum Unit (aJ×Int))):=
 if aaq=true then
 some (.done (.inr (aJ.mk 0 0 [] [] [] 0 (kV.mk false []) [] 0 0,7)))
 else
 some (.next (aL (rV+1)))
def Zu(F:Nat)(bX:List fI)(cu:Int)(fO:fI)(rV:Int):Option (Out Int (Sum Unit (aJ×Int))):=
 if (decide (rV<cu))=true then
 (idx bX rV).bind fun iP=>
 q89 F rV (iP.bT==fO.bT)
 else
 some (.done (.inl ()))
def Zt(F:Nat)(bX:List fI)(cu:Int):Option (Out Int (Sum Unit (aJ×Int))):=
 if (decide (cu<len bX))=true then
 (idx bX cu).bind fun fO=>
 if (fO.bT==0)=true then
 some (.done (.inr (aJ.mk 0 0 [] [] [] 0 (kV.mk false []) [] 0 0,1)))
 else
 (iter (fun s=>Zu F bX cu fO s) F 0).bind fun o=>
 match o with
 | .inl _=>q88 F cu fO
 | .inr u=>some (.done (.inr u))
 else
 some (.done (.inl ()))
def q3g(F:Nat)(ni:Int)(bX:List fI):Option (aJ×Int):=
 if ((ni != 0)&&(ni != 1))=true then
 some (aJ.mk 0 0 [] [] [] 0 (kV.mk false []) [] 0 0,1)
 else
 if (decide (len bX>64))=true then
 some (aJ.mk 0 0 [] [] [] 0 (kV.mk false []) [] 0 0,4)
 else
 (iter (fun s=>Zt F bX s) F 0).bind fun o=>
 match o with
 | .inl _=>q86 F ni bX
 | .inr u=>some u
def q55(F:Nat)(t_1:vH):Option Bool:=
 (q3g F 0 t_1.ak.1).bind fun x_2=>
 (q3g F 1 t_1.ak.2).bind fun x_3=>
 some ((x_2.2 != 0)||(x_3.2 != 0))
def q8a(_:Nat)(a_1 uz:aJ):Option Bool:=
 some (len a_1.aj==len uz.aj)
def q8b(_:Nat)(x_3:Int):Option (Out Int (Sum Unit Bool)):=
 some (.next (aL (x_3+1)))
def q8c(F:Nat)(x_3:Int)(cu:aM)(fO:Int):Option (Out Int (Sum Unit Bool)):=
 if ((fO != 1)||cu.ba)=true then
 some (.done (.inr false))
 else
 q8b F x_3
def q5u(_:Nat)(jq EO:Int):Option (Out (Int×Int) (Sum Int Bool)):=
 some (.next (EO,aL (jq+1)))
def PN(F:Nat)(uz:aJ)(cu:aM)(jr jq:Int):Option (Out (Int×Int) (Sum Int Bool)):=
 if (decide (jq<len uz.aj))=true then
 (idx uz.aj jq).bind fun qE=>
 if (qE.ap != cu.al)=true then
 q5u F jq jr
 else
 if ((((((qE.al != cu.ap)||(qE.bT != cu.bT))||(qE.dh != cu.gu))||(qE.cZ != cu.bJ))||(qE.aC != cu.aG))||((decide (len cu.Out>0))&&(decide (qE.bd>0))))=true then
 some (.done (.inr false))
 else
 q5u F jq (aL (jr+1))
 else
 some (.done (.inl jr))
def q22(F:Nat)(a_1 uz:aJ)(x_3:Int):Option (Out Int (Sum Unit Bool)):=
 if (decide (x_3<len a_1.aj))=true then
 (idx a_1.aj x_3).bind fun cu=>
 (iter (fun s=>PN F uz cu s.1 s.2) F (0,0)).bind fun o=>
 match o with
 | .inl u=>q8c F x_3 cu u
 | .inr u=>some (.done (.inr u))
 else
 some (.done (.inl ()))
def q1m(F:Nat)(a_1 uz:aJ):Option Bool:=
 (iter (fun s=>q22 F a_1 uz s) F 0).bind fun o=>
 match o with
 | .inl _=>q8a F a_1 uz
 | .inr u=>some u
def q5v(_:Nat)(Lu:Bool):Option Bool:=
 some Lu
def q3y(F:Nat)(t_1:vH):Option Bool:=
 (q3z F t_1).bind fun x_2=>
 if (!x_2)=true then
 (q1y F).bind fun x_3=>
 some x_3
 else
 (q3w F t_1).bind fun cu=>
 if (!cu.2)=true then
 (q55 F t_1).bind fun fO=>
 (if fO=true then
 (q1y F).bind fun qE=>
 some qE
 else
 some false).bind fun z_7=>
 some z_7
 else
 if (!cu.1.data)=true then
 (q1m F cu.1.ai.1 cu.1.ai.2).bind fun aaO=>
 if aaO=true then
 (q1m F cu.1.ai.2 cu.1.ai.1).bind fun qG=>
 if qG=true then
 (q1y F).bind fun iK=>
 q5v F iK
 else
 q5v F false
 else
 q5v F false
 else
 q5v F false
end V
end Go.Proofs.YtbgfhaahhdnogaaGreat
