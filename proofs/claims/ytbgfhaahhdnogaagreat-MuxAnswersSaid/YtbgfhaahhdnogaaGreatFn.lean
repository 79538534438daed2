/- Pure twins of the Go functions, wn by program. -/
import Derived.Test.YtbgfhaahhdnogaaGreatPure
namespace Go.Proofs.YtbgfhaahhdnogaaGreat
namespace V
structure fA where
 bQ:Int
 bZ:Int
 cu:Int
 aA:Int
 bc:Int
structure jF where
 bO:Int
 aY:Int
 aE:Int
 aN:Int
 ba:Int
structure Fe where
 bj:Int
 ae:Int
 N:Int
 bQ:Int
 aU:Int
 bZ:Int
 cu:Int
 aA:Int
 aw:List Int
 ai:jF
structure uS where
 ak:((List fA)×List fA)
 bL:(Int×Int)
 eP:List Fe
structure aT where
 ap:Int
 ax:Int
 bQ:Int
 bZ:Int
 cu:Int
 jQ:Int
 dx:Int
 aO:Int
 aG:Int
 bh:Int
 Out:(List (List Int))
 aV:Int
 In:List Int
 bi:Int
 bd:Bool
structure aQ where
 ae:Int
 ID:Int
 bQ:Int
 am:Int
 bT:Int
 bZ:Int
 cu:Int
 aA:Int
 Result:Int
 ai:jF
structure kH where
 On:Bool
 ao:List Int
structure bJ where
 aU:Int
 al:List Int
structure aI where
 iY:Int
 bc:Int
 ak:List fA
 aj:List aT
 aB:List aQ
 bX:Int
 ay:kH
 Out:List bJ
 aV:Int
 Length:Int
structure gy where
 ae:Int
 aU:Int
 bk:List Int
 Result:Int
 ai:jF
 ID:Int
structure bM where
 aC:aI
 aq:List gy
structure wQ where
 n:Int
 bp:Int
 bo:Int
structure tZ where
 bl:Int
 Value:Int
structure eH where
 dO:Int
 al:List Int
structure bD where
 ah:(aI×aI)
 aM:((List eH)×List eH)
 au:(Nat->(List (List Int)))
 ar:((List bJ)×List bJ)
 ab:(Nat->Bool)
 params:Int
 data:Bool
 frame:Bool
 answer:Bool
def q6d(_:Nat)(t_1:uS)(x_2:Int):Option (Bool):=
 some ((((decide ((len t_1.eP)<=60))&&(decide (x_2<=4096)))&&(decide ((len t_1.ak.1)<=10)))&&(decide ((len t_1.ak.2)<=10)))
def qy(_:Nat)(t_1:uS)(x_3:Int)(cO:Int):Option (Out (Int×Int) (Sum (Int) (Bool))):=
 if ((decide (cO<(len t_1.eP)))&&(decide (cO<60)))=true then
 (idx t_1.eP cO).bind fun fH=>
 if (decide ((len fH.aw)>4096))=true then
 some (.done (.inr false))
 else
 (idx t_1.eP cO).bind fun jo=>
 some (.next (aK (x_3+(len jo.aw)),aK (cO+1)))
 else
 some (.done (.inl (x_3)))
def q3y(F:Nat)(t_1:uS):Option (Bool):=
 (iter (fun s=>qy F t_1 s.1 s.2) F (0,0)).bind fun o=>
 match o with
 | .inl u=>q6d F t_1 u
 | .inr u=>some u
def q5b(_:Nat)(o_1:fA)(nD:fA):Option (Bool×fA):=
 some ((o_1.bQ==nD.bQ),nD)
def q8c(_:Nat)(c_8:fA):Option (Int×fA):=
 some ((-1),c_8)
def q24(F:Nat)(s_1:List fA)(Pg:fA)(qP:Int):Option (Out (fA×Int) (Sum (fA) (Int×fA))):=
 if (decide (qP<(len s_1)))=true then
 (idx s_1 qP).bind fun om=>
 (q5b F om Pg).bind fun iF=>
 if iF.1=true then
 some (.done (.inr (qP,iF.2)))
 else
 some (.next (iF.2,aK (qP+1)))
 else
 some (.done (.inl (Pg)))
def q3z(F:Nat)(s_1:List fA)(c_2:fA):Option (Int×fA):=
 (iter (fun s=>q24 F s_1 s.1 s.2) F (c_2,0)).bind fun o=>
 match o with
 | .inl u=>q8c F u
 | .inr u=>some u
def q40(F:Nat)(s_1:List fA)(c_2:fA):Option (Bool×fA):=
 (q3z F s_1 c_2).bind fun x_3=>
 some (decide (x_3.1≥0),x_3.2)
def qo(_:Nat)(Km:Int)(adD:Int)(aa0:Int):Option (Bool):=
 some ((decide (Km≥adD))&&(decide (Km<=aa0)))
def qz(F:Nat)(Km:Int):Option (Bool):=
 (qo F Km 23 4096).bind fun x_2=>
 some x_2
def q25(_:Nat)(s_1:List fA):Option ((List fA)):=
 (app 40 ([]:List fA) s_1).bind fun tX=>
 some tX
def q6e(F:Nat)(mU:Int)(bY:List fA):Option (aI×Int):=
 (q25 F bY).bind fun x_3=>
 some ((aI.mk mU 0 x_3 [] [] 1 (kH.mk false []) [] 0 27),0)
def Yr(F:Nat)(bY:List fA)(cO:Int):Option (Out (Int) (Sum (Unit) (aI×Int))):=
 if (decide (cO<(len bY)))=true then
 (idx bY cO).bind fun fH=>
 (sub bY 0 cO).bind fun OT=>
 (q40 F OT fH).bind fun jG=>
 if (jG.2.bQ==0)=true then
 some (.done (.inr ((aI.mk 0 0 [] [] [] 0 (kH.mk false []) [] 0 0),1)))
 else
 if jG.1=true then
 some (.done (.inr ((aI.mk 0 0 [] [] [] 0 (kH.mk false []) [] 0 0),7)))
 else
 (qz F jG.2.bZ).bind fun Ho=>
 (if (!Ho)=true then
 some (true)
 else
 (qz F jG.2.cu).bind fun j3=>
 some ((!j3))).bind fun P7=>
 (if P7=true then
 some (true)
 else
 (qo F jG.2.aA 0 65535).bind fun iM=>
 some ((!iM))).bind fun Y0=>
 (if Y0=true then
 some (true)
 else
 (qo F jG.2.bc 0 2).bind fun om=>
 some ((!om))).bind fun YX=>
 if YX=true then
 some (.done (.inr ((aI.mk 0 0 [] [] [] 0 (kH.mk false []) [] 0 0),5)))
 else
 some (.next (aK (cO+1)))
 else
 some (.done (.inl ()))
def q12(F:Nat)(mU:Int)(bY:List fA):Option (aI×Int):=
 if ((mU != 0)&&(mU != 1))=true then
 some ((aI.mk 0 0 [] [] [] 0 (kH.mk false []) [] 0 0),1)
 else
 if (decide ((len bY)>64))=true then
 some ((aI.mk 0 0 [] [] [] 0 (kH.mk false []) [] 0 0),4)
 else
 (iter (fun s=>Yr F bY s) F (0)).bind fun o=>
 match o with
 | .inl _=>q6e F mU bY
 | .inr u=>some u
def q41(_:Nat)(s_1:List aQ):Option ((List aQ)):=
 (app 96 ([]:List aQ) s_1).bind fun tX=>
 some tX
def q42(_:Nat)(s_1:List aT):Option ((List aT)):=
 (app 136 ([]:List aT) s_1).bind fun tX=>
 some tX
def q43(_:Nat)(s_1:List bJ):Option ((List bJ)):=
 (app 32 ([]:List bJ) s_1).bind fun tX=>
 some tX
def q6f(_:Nat)(tX:List Int):Option ((List Int)):=
 some tX
def qp(_:Nat)(zJ:List (List Int))(PX:List Int)(cO:Int):Option (Out ((List Int)×Int) ((List Int))):=
 if (decide (cO<(len zJ)))=true then
 (idx zJ cO).bind fun fH=>
 (app 1 PX fH).bind fun OT=>
 some (.next (OT,aK (cO+1)))
 else
 some (.done (PX))
def qa(F:Nat)(zJ:List (List Int)):Option ((List Int)):=
 (iter (fun s=>qp F zJ s.1 s.2) F ([],0)).bind fun o=>
 q6f F o
def q6g(_:Nat)(tX:List (List Int)):Option ((List (List Int))):=
 some tX
def Yq(F:Nat)(l_1:List (List Int))(PX:List (List Int))(cO:Int):Option (Out ((List (List Int))×Int) ((List (List Int)))):=
 if (decide (cO<(len l_1)))=true then
 (idx l_1 cO).bind fun fH=>
 (qa F [fH]).bind fun jo=>
 (app 24 PX [jo]).bind fun wT=>
 some (.next (wT,aK (cO+1)))
 else
 some (.done (PX))
def q3i(F:Nat)(l_1:List (List Int)):Option ((List (List Int))):=
 (iter (fun s=>Yq F l_1 s.1 s.2) F ([],0)).bind fun o=>
 q6g F o
def q6h(F:Nat)(m_1:aI)(Kt:aI)(wT:List aT)(Ko:List bJ):Option (bM):=
 (qa F [m_1.ay.ao]).bind fun tL=>
 some (bM.mk ({ m_1 with ak:=Kt.ak,aj:=wT,aB:=Kt.aB,ay:={ m_1.ay with ao:=tL },Out:=Ko }) [])
def Yp(F:Nat)(Kt:aI)(Dk:List bJ)(l8:Int):Option (Out ((List bJ)×Int) ((List bJ))):=
 if (decide (l8<(len Kt.Out)))=true then
 (idx Dk l8).bind fun pI=>
 (qa F [pI.al]).bind fun qP=>
 (idx Dk l8).bind fun _=>
 (idx Dk l8).bind fun iF=>
 (upd Dk l8 ({ iF with al:=qP })).bind fun aax=>
 some (.next (aax,aK (l8+1)))
 else
 some (.done (Dk))
def q6i(F:Nat)(m_1:aI)(Kt:aI)(wT:List aT):Option (bM):=
 (iter (fun s=>Yp F Kt s.1 s.2) F (Kt.Out,0)).bind fun o=>
 q6h F m_1 Kt wT o
def Yo(F:Nat)(Kt:aI)(zf:List aT)(j3:Int):Option (Out ((List aT)×Int) ((List aT))):=
 if (decide (j3<(len Kt.aj)))=true then
 (idx zf j3).bind fun kU=>
 (q3i F kU.Out).bind fun acw=>
 (qa F [kU.In]).bind fun acs=>
 (idx zf j3).bind fun _=>
 (idx zf j3).bind fun Zk=>
 (upd zf j3 ({ Zk with Out:=acw })).bind fun K5=>
 (idx K5 j3).bind fun _=>
 (idx K5 j3).bind fun Zj=>
 (upd K5 j3 ({ Zj with In:=acs })).bind fun aay=>
 some (.next (aay,aK (j3+1)))
 else
 some (.done (zf))
def q6j(F:Nat)(m_1:aI)(Kt:aI):Option (bM):=
 (iter (fun s=>Yo F Kt s.1 s.2) F (Kt.aj,0)).bind fun o=>
 q6i F m_1 Kt o
def qg(F:Nat)(m_1:aI):Option (bM):=
 (q25 F m_1.ak).bind fun Zg=>
 (q41 F m_1.aB).bind fun Zf=>
 (q42 F m_1.aj).bind fun Ze=>
 (q43 F m_1.Out).bind fun Zd=>
 q6j F m_1 ({ m_1 with ak:=Zg,aj:=Ze,aB:=Zf,Out:=Zd })
def q8d(_:Nat):Option (Int):=
 some (-1)
def Yn(_:Nat)(s_1:List Int)(v_2:Int)(x_3:Int):Option (Out (Int) (Sum (Unit) (Int))):=
 if (decide (x_3<(len s_1)))=true then
 (idx s_1 x_3).bind fun cO=>
 if (v_2==cO)=true then
 some (.done (.inr x_3))
 else
 some (.next (aK (x_3+1)))
 else
 some (.done (.inl ()))
def q5c(F:Nat)(s_1:List Int)(v_2:Int):Option (Int):=
 (iter (fun s=>Yn F s_1 v_2 s) F (0)).bind fun o=>
 match o with
 | .inl _=>q8d F
 | .inr u=>some u
def q2b(F:Nat)(s_1:List Int)(v_2:Int):Option (Bool):=
 (q5c F s_1 v_2).bind fun x_3=>
 some (decide (x_3≥0))
def q2c(F:Nat)(Cy:Int)(nD:List Int):Option ((List Int)):=
 (q2b F nD Cy).bind fun x_3=>
 if (!x_3)=true then
 (app 2 nD [Cy]).bind fun MN=>
 some MN
 else
 some nD
def q8e(_:Nat)(PX:List Int):Option ((List Int)):=
 some PX
def q5z(_:Nat)(fH:Int)(OT:List Int):Option (Out ((List Int)×Int) ((List Int))):=
 some (.next (OT,aK (fH+1)))
def VJ(F:Nat)(x_1:bM)(MN:List Int)(fH:Int):Option (Out ((List Int)×Int) ((List Int))):=
 if (decide (fH<(len x_1.aC.aB)))=true then
 (idx x_1.aC.aB fH).bind fun jG=>
 if ((jG.ae==20)||(jG.ae==6))=true then
 (q2c F jG.am MN).bind fun Ho=>
 q5z F fH Ho
 else
 q5z F fH MN
 else
 some (.done (MN))
def q6k(F:Nat)(x_1:bM)(tX:List Int):Option ((List Int)):=
 (iter (fun s=>VJ F x_1 s.1 s.2) F (tX,0)).bind fun o=>
 q8e F o
def VI(F:Nat)(x_1:bM)(l_9:List Int)(Ag:Int):Option (Out ((List Int)×Int) ((List Int))):=
 if (decide (Ag<(len x_1.aC.aj)))=true then
 (idx x_1.aC.aj Ag).bind fun l8=>
 (q2c F l8.ap l_9).bind fun pI=>
 some (.next (pI,aK (Ag+1)))
 else
 some (.done (l_9))
def q44(F:Nat)(x_1:bM):Option ((List Int)):=
 (iter (fun s=>VI F x_1 s.1 s.2) F ([],0)).bind fun o=>
 q6k F x_1 o
def q8f(_:Nat)(x_3:Int):Option (Int×Bool):=
 some (x_3,true)
def Ym(F:Nat)(x_2:List Int)(cO:Int):Option (Out (Int) (Int)):=
 (q2b F x_2 cO).bind fun fH=>
 if fH=true then
 some (.next (kI (cO+1)))
 else
 some (.done (cO))
def q1c(F:Nat)(x_1:bM):Option (Int×Bool):=
 (q44 F x_1).bind fun x_2=>
 if (decide ((len x_2)≥16))=true then
 some (0,false)
 else
 (iter (fun s=>Ym F x_2 s) F (64)).bind fun o=>
 q8f F o
def q10(_:Nat)(x_1:bM):Option (Bool):=
 some (decide ((len x_1.aC.Out)≥64))
def q5d(_:Nat)(s_1:aQ)(nD:Int):Option (Bool×Int):=
 some ((s_1.ID==nD),nD)
def q8g(_:Nat)(x_3:Int):Option (Int×Int):=
 some ((-1),x_3)
def Yl(F:Nat)(s_1:List aQ)(cO:Int)(fH:Int):Option (Out (Int×Int) (Sum (Int) (Int×Int))):=
 if (decide (fH<(len s_1)))=true then
 (idx s_1 fH).bind fun jo=>
 (q5d F jo cO).bind fun jG=>
 if jG.1=true then
 some (.done (.inr (fH,jG.2)))
 else
 some (.next (jG.2,aK (fH+1)))
 else
 some (.done (.inl (cO)))
def q5e(F:Nat)(s_1:List aQ)(c_2:Int):Option (Int×Int):=
 (iter (fun s=>Yl F s_1 s.1 s.2) F (c_2,0)).bind fun o=>
 match o with
 | .inl u=>q8g F u
 | .inr u=>some u
def q45(F:Nat)(s_1:List aQ)(c_2:Int):Option (Bool×Int):=
 (q5e F s_1 c_2).bind fun x_3=>
 some (decide (x_3.1≥0),x_3.2)
def q6l(_:Nat)(x_1:bM)(x_2:Int):Option (Int×bM):=
 some (x_2,{ x_1 with aC:={ x_1.aC with bX:=aK ((gU x_2 255)+1) } })
def q46(F:Nat)(x_1:bM)(cO:Int)(fH:Int):Option (Out (Int×Int) (Int)):=
 (q45 F x_1.aC.aB fH).bind fun jo=>
 if (!jo.1)=true then
 some (.done (jo.2))
 else
 some (.next (aK (jo.2+1),aK (cO+1)))
def Yk(F:Nat)(x_1:bM)(x_3:Int)(cO:Int):Option (Out (Int×Int) (Int)):=
 if (decide (cO<255))=true then
 if ((decide (x_3<1))||(decide (x_3>255)))=true then
 q46 F x_1 cO 1
 else
 q46 F x_1 cO x_3
 else
 some (.done (x_3))
def q1r(F:Nat)(x_1:bM):Option (Int×bM):=
 (iter (fun s=>Yk F x_1 s.1 s.2) F (x_1.aC.bX,0)).bind fun o=>
 q6l F x_1 o
def UH(_:Nat)(UM:Bool):Option (Bool):=
 if UM=true then
 some true
 else
 some false
def q2g(F:Nat)(eB:Int):Option (Bool):=
 if (eB==1)=true then
 UH F (eB==1)
 else
 if (eB==6)=true then
 UH F (eB==6)
 else
 if (eB==7)=true then
 UH F (eB==7)
 else
 if (eB==18)=true then
 UH F (eB==18)
 else
 if (eB==19)=true then
 UH F (eB==19)
 else
 if (eB==20)=true then
 UH F (eB==20)
 else
 if (eB==21)=true then
 UH F (eB==21)
 else
 UH F (eB==22)
def Yj(_:Nat)(s_1:aQ)(Pg:aQ):Option (aQ):=
 some ({ Pg with ae:=s_1.ae,ID:=s_1.ID })
def q8h(F:Nat)(s_1:aQ):Option (aQ):=
 Yj F s_1 ({ s_1 with bQ:=0,bZ:=0,cu:=0,aA:=0,Result:=0,ai:=(jF.mk 0 0 0 0 0) })
def q6m(F:Nat)(s_1:aQ):Option (aQ):=
 q8h F s_1
def q6n(F:Nat)(s_1:aQ):Option (aQ):=
 Yj F s_1 ({ s_1 with bQ:=0,am:=0,bT:=0,bZ:=0,cu:=0,aA:=0,ai:=(jF.mk 0 0 0 0 0) })
def q8i(F:Nat)(s_1:aQ):Option (aQ):=
 Yj F s_1 ({ s_1 with bT:=0,Result:=0,ai:=(jF.mk 0 0 0 0 0) })
def q8j(F:Nat)(s_1:aQ):Option (aQ):=
 Yj F s_1 ({ s_1 with bQ:=0,bT:=0,ai:=(jF.mk 0 0 0 0 0) })
def q8k(F:Nat)(s_1:aQ):Option (aQ):=
 Yj F s_1 ({ s_1 with bQ:=0,bT:=0,bZ:=0,cu:=0,Result:=0,ai:=(jF.mk 0 0 0 0 0) })
def q47(F:Nat)(s_1:aQ):Option (aQ):=
 if (s_1.ae==19)=true then
 q6n F s_1
 else
 if (s_1.ae==1)=true then
 q6n F s_1
 else
 if (s_1.ae==7)=true then
 q6m F s_1
 else
 if (s_1.ae==6)=true then
 q6m F s_1
 else
 if (s_1.ae==18)=true then
 Yj F s_1 ({ s_1 with bQ:=0,am:=0,bT:=0,bZ:=0,cu:=0,aA:=0,Result:=0 })
 else
 if (s_1.ae==20)=true then
 q8i F s_1
 else
 if (s_1.ae==21)=true then
 q8j F s_1
 else
 if (s_1.ae==22)=true then
 q8k F s_1
 else
 Yj F s_1 ({ s_1 with bQ:=0,am:=0,bT:=0,bZ:=0,cu:=0,aA:=0,Result:=0,ai:=(jF.mk 0 0 0 0 0) })
def q3j(_:Nat)(UM:Bool):Option (Bool):=
 if UM=true then
 some true
 else
 some false
def q3k(F:Nat)(s_1:aQ):Option (Bool):=
 if (s_1.ae==1)=true then
 some ((s_1.Result==0)||(s_1.Result==2))
 else
 if (s_1.ae==19)=true then
 some ((s_1.Result==0)||(s_1.Result==1))
 else
 if (s_1.ae==21)=true then
 if (s_1.Result==0)=true then
 q3j F (s_1.Result==0)
 else
 if (s_1.Result==2)=true then
 q3j F (s_1.Result==2)
 else
 if (s_1.Result==4)=true then
 q3j F (s_1.Result==4)
 else
 if (s_1.Result==5)=true then
 q3j F (s_1.Result==5)
 else
 q3j F (s_1.Result==9)
 else
 some true
def qq(_:Nat)(Cy:Int):Option (Bool):=
 some ((decide (Cy≥64))&&(decide (Cy<=127)))
def q2i(_:Nat)(Km:Int):Option (Bool):=
 some ((decide (Km≥23))&&(decide (Km<=4096)))
def q3l(F:Nat)(s_1:aQ)(z_8:Bool):Option (Bool):=
 if z_8=true then
 (qq F s_1.am).bind fun tL=>
 (if tL=true then
 (q2i F s_1.bZ).bind fun iF=>
 some (iF)
 else
 some (false)).bind fun P6=>
 (if P6=true then
 (q2i F s_1.cu).bind fun qP=>
 some (qP)
 else
 some (false)).bind fun YZ=>
 some ((YZ&&(decide (s_1.aA≥0)))&&(decide (s_1.aA<=65535)))
 else
 if (s_1.ae==22)=true then
 (qq F s_1.am).bind fun iM=>
 some ((iM&&(decide (s_1.aA≥1)))&&(decide (s_1.aA<=65535)))
 else
 some true
def VH(F:Nat)(s_1:aQ)(UM:Bool):Option (Bool):=
 if UM=true then
 (qq F s_1.am).bind fun x_3=>
 (if x_3=true then
 (qq F s_1.bT).bind fun jG=>
 some (jG)
 else
 some (false)).bind fun z_5=>
 some z_5
 else
 if (s_1.ae==20)=true then
 q3l F s_1 (s_1.ae==20)
 else
 q3l F s_1 (s_1.ae==21)
def VK(F:Nat)(s_1:aQ):Option (Bool):=
 if (s_1.ae==6)=true then
 VH F s_1 (s_1.ae==6)
 else
 VH F s_1 (s_1.ae==7)
def q8l(_:Nat):Option (Bool):=
 some true
def Yi(_:Nat)(Nh:List wQ)(x_2:Int):Option (Out (Int) (Sum (Unit) (Bool))):=
 if (decide (x_2<(len Nh)))=true then
 (idx Nh x_2).bind fun x_3=>
 if ((decide (x_3.n<x_3.bp))||(decide (x_3.n>x_3.bo)))=true then
 some (.done (.inr false))
 else
 some (.next (aK (x_2+1)))
 else
 some (.done (.inl ()))
def q48(F:Nat)(Nh:List wQ):Option (Bool):=
 (iter (fun s=>Yi F Nh s) F (0)).bind fun o=>
 match o with
 | .inl _=>q8l F
 | .inr u=>some u
def q2k(F:Nat)(u_1:jF):Option (Int):=
 (q48 F [(wQ.mk u_1.bO 1 8),(wQ.mk u_1.aY 0 3200),(wQ.mk u_1.aE 6 3200),(wQ.mk u_1.aN 0 499),(wQ.mk u_1.ba 10 3200)]).bind fun x_2=>
 if (!x_2)=true then
 some 5
 else
 if (((decide (u_1.bO≥u_1.aE))||(decide (u_1.aY>u_1.aE)))||(decide ((aK (u_1.ba*10000))<=(aK ((aK ((aK (2*(aK (u_1.aN+1))))*u_1.aE))*1250)))))=true then
 some 11
 else
 some 0
def q6o(F:Nat)(s_1:aQ)(z_3:Bool):Option (Int):=
 if z_3=true then
 some 1
 else
 (q3k F s_1).bind fun cO=>
 if (!cO)=true then
 some 5
 else
 if ((s_1.ae==21)&&(s_1.Result != 0))=true then
 if ((((s_1.am != 0)||(s_1.bZ != 0))||(s_1.cu != 0))||(s_1.aA != 0))=true then
 some 1
 else
 some 0
 else
 if ((s_1.ae==20)&&(s_1.bQ==0))=true then
 some 1
 else
 (VK F s_1).bind fun fH=>
 if (!fH)=true then
 some 5
 else
 if (s_1.ae==18)=true then
 (q2k F s_1.ai).bind fun jo=>
 some jo
 else
 some 0
def q2l(F:Nat)(s_1:aQ):Option (Int):=
 (q2g F s_1.ae).bind fun x_2=>
 if (!x_2)=true then
 some 12
 else
 if ((decide (s_1.ID<1))||(decide (s_1.ID>255)))=true then
 some 5
 else
 (q47 F s_1).bind fun tL=>
 q6o F s_1 (!((s_1.ae==tL.ae)&&((s_1.ID==tL.ID)&&((s_1.bQ==tL.bQ)&&((s_1.am==tL.am)&&((s_1.bT==tL.bT)&&((s_1.bZ==tL.bZ)&&((s_1.cu==tL.cu)&&((s_1.aA==tL.aA)&&((s_1.Result==tL.Result)&&((s_1.ai.bO==tL.ai.bO)&&((s_1.ai.aY==tL.ai.aY)&&((s_1.ai.aE==tL.ai.aE)&&((s_1.ai.aN==tL.ai.aN)&&(s_1.ai.ba==tL.ai.ba)))))))))))))))
def q5f(_:Nat)(eB:Int)(z_3:Bool):Option ((List Int)):=
 if z_3=true then
 some [2,2]
 else
 if (eB==18)=true then
 some [1,2,2,2,2]
 else
 some [2,2,2,2,2]
def q60(F:Nat)(eB:Int)(UM:Bool):Option ((List Int)):=
 if UM=true then
 some [2]
 else
 if (eB==6)=true then
 q5f F eB (eB==6)
 else
 if (eB==7)=true then
 q5f F eB (eB==7)
 else
 q5f F eB (eB==22)
def qt(F:Nat)(eB:Int):Option ((List Int)):=
 if (eB==1)=true then
 q60 F eB (eB==1)
 else
 q60 F eB (eB==19)
def q6p(_:Nat)(s_1:aQ)(z_3:Bool):Option ((List Int)):=
 if z_3=true then
 some [aK s_1.am,aK s_1.bT]
 else
 if (s_1.ae==18)=true then
 some [s_1.ai.bO,s_1.ai.aY,s_1.ai.aE,s_1.ai.aN,s_1.ai.ba]
 else
 if (s_1.ae==20)=true then
 some [aK s_1.bQ,aK s_1.am,s_1.bZ,s_1.cu,s_1.aA]
 else
 if (s_1.ae==21)=true then
 some [aK s_1.am,s_1.bZ,s_1.cu,s_1.aA,s_1.Result]
 else
 some [aK s_1.am,s_1.aA]
def q6q(F:Nat)(s_1:aQ)(UM:Bool):Option ((List Int)):=
 if UM=true then
 some [s_1.Result]
 else
 if (s_1.ae==6)=true then
 q6p F s_1 (s_1.ae==6)
 else
 q6p F s_1 (s_1.ae==7)
def q5g(F:Nat)(s_1:aQ):Option ((List Int)):=
 if (s_1.ae==1)=true then
 q6q F s_1 (s_1.ae==1)
 else
 q6q F s_1 (s_1.ae==19)
def q2m(_:Nat)(Km:Int):Option (Bool):=
 some ((decide (Km≥1))&&(decide (Km<=8)))
def q8m(_:Nat)(tX:List Int):Option ((List Int)×Int):=
 some (tX,0)
def q6r(_:Nat)(cO:Int)(l_5:List Int):Option (Out ((List Int)×Int) (Sum ((List Int)) ((List Int)×Int))):=
 some (.next (l_5,aK (cO+1)))
def VG(_:Nat)(jo:tZ)(Dk:List Int)(l8:Int):Option (Out ((List Int)×Int) ((List Int))):=
 if (decide (l8<jo.bl))=true then
 (Jm .u64 jo.Value (aK (8*l8))).bind fun pI=>
 (app 1 Dk [kP pI]).bind fun l_13=>
 some (.next (l_13,aK (l8+1)))
 else
 some (.done (Dk))
def Yh(F:Nat)(wo:List tZ)(PX:List Int)(cO:Int):Option (Out ((List Int)×Int) (Sum ((List Int)) ((List Int)×Int))):=
 if (decide (cO<(len wo)))=true then
 (idx wo cO).bind fun jo=>
 (q2m F jo.bl).bind fun jG=>
 (if (!jG)=true then
 some (true)
 else
 if (decide (jo.bl<8))=true then
 (Jm .u64 jo.Value (aK (8*jo.bl))).bind fun om=>
 some ((om != 0))
 else
 some (false)).bind fun z_9=>
 if z_9=true then
 some (.done (.inr ([],5)))
 else
 (iter (fun s=>VG F jo s.1 s.2) F (PX,0)).bind fun o=>
 q6r F cO o
 else
 some (.done (.inl (PX)))
def q2o(F:Nat)(wo:List tZ):Option ((List Int)×Int):=
 (iter (fun s=>Yh F wo s.1 s.2) F ([],0)).bind fun o=>
 match o with
 | .inl u=>q8m F u
 | .inr u=>some u
def q6s(F:Nat)(s_1:aQ)(MN:List tZ)(fH:Int):Option ((List Int)×Int):=
 (q2o F MN).bind fun jo=>
 if (jo.2 != 0)=true then
 some ([],jo.2)
 else
 (qa F [[kP s_1.ae,kP s_1.ID,kP fH,0],jo.1]).bind fun jG=>
 some (jG,0)
def PW(_:Nat)(x_3:List Int)(Ho:List Int)(l_9:List tZ)(Ag:Int)(l8:Int):Option (Out ((List tZ)×Int×Int) ((List tZ)×Int)):=
 if (decide (l8<(len Ho)))=true then
 (idx Ho l8).bind fun pI=>
 (idx x_3 l8).bind fun Qi=>
 (app 16 l_9 [(tZ.mk Qi (wu64 pI))]).bind fun aaz=>
 (idx x_3 l8).bind fun qP=>
 some (.next (aaz,aK (Ag+qP),aK (l8+1)))
 else
 some (.done (l_9,Ag))
def q49(F:Nat)(s_1:aQ):Option ((List Int)×Int):=
 (q2l F s_1).bind fun x_2=>
 if (x_2 != 0)=true then
 some ([],x_2)
 else
 (qt F s_1.ae).bind fun x_3=>
 (q5g F s_1).bind fun Ho=>
 (iter (fun s=>PW F x_3 Ho s.1 s.2.1 s.2.2) F ([],0,0)).bind fun o=>
 q6s F s_1 o.1 o.2
def q1e(F:Nat)(x_1:bM)(ni:Int)(YK:List Int):Option (bM):=
 (qa F [YK]).bind fun jo=>
 (app 32 x_1.aC.Out [(bJ.mk ni jo)]).bind fun wT=>
 some ({ x_1 with aC:={ x_1.aC with Out:=wT } })
def qf(F:Nat)(x_1:bM)(s_2:aQ):Option (bM):=
 (q49 F s_2).bind fun x_3=>
 if (x_3.2==0)=true then
 (q1e F x_1 5 x_3.1).bind fun cO=>
 some cO
 else
 some x_1
def q1f(F:Nat)(x_1:bM)(s_2:aQ):Option (bM):=
 (q1r F x_1).bind fun x_3=>
 (qf F x_3.2 ({ s_2 with ID:=x_3.1 })).bind fun cO=>
 (app 96 cO.aC.aB [{ s_2 with ID:=x_3.1 }]).bind fun wT=>
 some ({ cO with aC:={ cO.aC with aB:=wT } })
def q1g(F:Nat)(m_1:aI)(Yt:Int)(Yw:Int)(Yx:Int)(ES:Int):Option (aI×Int×Int):=
 (qg F m_1).bind fun jo=>
 (q1c F jo).bind fun jG=>
 if (Yt==0)=true then
 some (jo.aC,0,1)
 else
 (qz F Yw).bind fun Ho=>
 (if (!Ho)=true then
 some (true)
 else
 (qz F Yx).bind fun kU=>
 some ((!kU))).bind fun P7=>
 (if P7=true then
 some (true)
 else
 (qo F ES 0 65535).bind fun oh=>
 some ((!oh))).bind fun Y0=>
 if Y0=true then
 some (jo.aC,0,5)
 else
 (if (!jG.2)=true then
 some (true)
 else
 (q10 F jo).bind fun iF=>
 some (iF)).bind fun YX=>
 if YX=true then
 some (jo.aC,0,8)
 else
 (q1f F jo (aQ.mk 20 0 Yt jG.1 0 Yw Yx ES 0 (jF.mk 0 0 0 0 0))).bind fun qP=>
 some (qP.aC,jG.1,0)
def q5h(_:Nat)(s_1:aQ)(nD:aT):Option (Bool×aT):=
 some (((s_1.ae==6)&&(s_1.am==nD.ap)),nD)
def q8n(_:Nat)(Ti:aT):Option (Int×aT):=
 some ((-1),Ti)
def Yg(F:Nat)(s_1:List aQ)(c_34:aT)(oI:Int):Option (Out (aT×Int) (Sum (aT) (Int×aT))):=
 if (decide (oI<(len s_1)))=true then
 (idx s_1 oI).bind fun iZ=>
 (q5h F iZ c_34).bind fun Ab=>
 if Ab.1=true then
 some (.done (.inr (oI,Ab.2)))
 else
 some (.next (Ab.2,aK (oI+1)))
 else
 some (.done (.inl (c_34)))
def q5i(F:Nat)(s_1:List aQ)(c_2:aT):Option (Int×aT):=
 (iter (fun s=>Yg F s_1 s.1 s.2) F (c_2,0)).bind fun o=>
 match o with
 | .inl u=>q8n F u
 | .inr u=>some u
def q4a(F:Nat)(s_1:List aQ)(c_2:aT):Option (Bool×aT):=
 (q5i F s_1 c_2).bind fun x_3=>
 some (decide (x_3.1≥0),x_3.2)
def qu(F:Nat)(x_1:bM)(c_2:aT):Option (Bool):=
 (q4a F x_1.aC.aB c_2).bind fun x_3=>
 some x_3.1
def q6t(F:Nat)(c_1:aT)(tX:List (List Int)):Option (aT):=
 (qa F [c_1.In]).bind fun x_3=>
 some ({ c_1 with Out:=tX,In:=x_3 })
def Yf(_:Nat)(c_1:aT)(MN:List (List Int))(fH:Int):Option (Out ((List (List Int))×Int) ((List (List Int)))):=
 if (decide (fH<(len c_1.Out)))=true then
 (idx c_1.Out fH).bind fun jo=>
 (mk 1 0 (len jo)).bind fun wT=>
 (app 24 MN [ET wT jo]).bind fun Ko=>
 some (.next (Ko,aK (fH+1)))
 else
 some (.done (MN))
def qw(F:Nat)(c_1:aT):Option (aT):=
 (iter (fun s=>Yf F c_1 s.1 s.2) F ([],0)).bind fun o=>
 q6t F c_1 o
def q4b(F:Nat)(QE:List Int):Option ((List Int)):=
 (qa F [[kP (len QE),kP (Ay (len QE) 8)],QE]).bind fun x_2=>
 some x_2
def q4c(F:Nat)(p_1:aT)(nD:List (List Int)):Option (aT×(List (List Int))):=
 (idx p_1.Out 0).bind fun x_3=>
 (q4b F x_3).bind fun cO=>
 (mk 1 0 (cZ (imax 1 (cZ p_1.dx (aK ((len cO)-(imax 0 (cZ p_1.aV (len cO))))))) (aK ((len cO)-(imax 0 (cZ p_1.aV (len cO))))))).bind fun l_5=>
 (sub cO (imax 0 (cZ p_1.aV (len cO))) (len cO)).bind fun OT=>
 (app 24 nD [ET l_5 OT]).bind fun wT=>
 if (decide ((aK ((imax 0 (cZ p_1.aV (len cO)))+(imax 1 (cZ p_1.dx (aK ((len cO)-(imax 0 (cZ p_1.aV (len cO)))))))))≥(len cO)))=true then
 (sub p_1.Out 1 (len p_1.Out)).bind fun Ko=>
 some ({ p_1 with aO:=aK (p_1.aO-1),Out:=Ko,aV:=0 },wT)
 else
 some ({ p_1 with aO:=aK (p_1.aO-1),aV:=aK ((imax 0 (cZ p_1.aV (len cO)))+(imax 1 (cZ p_1.dx (aK ((len cO)-(imax 0 (cZ p_1.aV (len cO)))))))) },wT)
def q6u(_:Nat)(Ti:aT)(zf:List (List Int)):Option (aT×(List (List Int))):=
 some (Ti,zf)
def q6v(F:Nat)(Ti:aT)(zf:List (List Int)):Option (aT×(List (List Int))):=
 q6u F Ti zf
def UG(F:Nat)(Xd:aT)(l_38:List (List Int)):Option (Out (aT×(List (List Int))) (aT×(List (List Int)))):=
 if ((decide ((len Xd.Out)>0))&&(decide (Xd.aO>0)))=true then
 (q4c F Xd l_38).bind fun Hy=>
 some (.next (Hy.1,Hy.2))
 else
 some (.done (Xd,l_38))
def q4d(F:Nat)(c_1:aT):Option (aT×(List (List Int))):=
 (qw F c_1).bind fun x_2=>
 if x_2.bd=true then
 some (x_2,[])
 else
 (iter (fun s=>UG F s.1 s.2) F (x_2,[])).bind fun o=>
 q6v F o.1 o.2
def q6w(_:Nat)(Pg:bM):Option (bM):=
 some Pg
def q6x(_:Nat)(tF:Int)(c_45:bM):Option (Out (bM×Int) (bM)):=
 some (.next (c_45,aK (tF+1)))
def q61(_:Nat)(Fv:Int)(Cz:bM):Option (Out (bM×Int) (bM)):=
 some (.next (Cz,aK (Fv+1)))
def VF(F:Nat)(Dj:(List (List (List Int))))(tF:Int)(zk:bM)(Fv:Int):Option (Out (bM×Int) (bM)):=
 if (decide (Fv<(len Dj)))=true then
 (idx Dj Fv).bind fun rz=>
 if (decide (tF<(len rz)))=true then
 (idx rz tF).bind fun Y3=>
 (idx zk.aC.aj Fv).bind fun x_77=>
 (q1e F zk x_77.ax Y3).bind fun x_78=>
 q61 F Fv x_78
 else
 q61 F Fv zk
 else
 some (.done (zk))
def VE(F:Nat)(Dj:(List (List (List Int))))(iM:Int)(c_31:bM)(tF:Int):Option (Out (bM×Int) (bM)):=
 if (decide (tF<iM))=true then
 (iter (fun s=>VF F Dj tF s.1 s.2) F (c_31,0)).bind fun o=>
 q6x F tF o
 else
 some (.done (c_31))
def q6y(F:Nat)(x_1:bM)(l_16:List aT)(Dj:(List (List (List Int))))(iM:Int):Option (bM):=
 (iter (fun s=>VE F Dj iM s.1 s.2) F ({ x_1 with aC:={ x_1.aC with aj:=l_16 } },0)).bind fun o=>
 q6w F o
def q62(_:Nat)(wX:Int)(l_83:List aT)(l_84:(List (List (List Int))))(x_85:Int):Option (Out ((List aT)×(List (List (List Int)))×Int×Int) ((List aT)×(List (List (List Int)))×Int)):=
 some (.next (l_83,l_84,x_85,aK (wX+1)))
def q6z(F:Nat)(Qa:Int)(wX:Int)(l_88:List aT)(l_89:(List (List (List Int)))):Option (Out ((List aT)×(List (List (List Int)))×Int×Int) ((List aT)×(List (List (List Int)))×Int)):=
 (idx l_89 wX).bind fun Y1=>
 q62 F wX l_88 l_89 (imax Qa (len Y1))
def VD(F:Nat)(x_1:bM)(Gq:List aT)(OQ:(List (List (List Int))))(Qa:Int)(wX:Int):Option (Out ((List aT)×(List (List (List Int)))×Int×Int) ((List aT)×(List (List (List Int)))×Int)):=
 if (decide (wX<(len x_1.aC.aj)))=true then
 (idx Gq wX).bind fun x_86=>
 (qu F ({ x_1 with aC:={ x_1.aC with aj:=Gq } }) x_86).bind fun P9=>
 if P9=true then
 q62 F wX Gq OQ Qa
 else
 (q4d F x_86).bind fun x_93=>
 (idx Gq wX).bind fun _=>
 (upd Gq wX x_93.1).bind fun l_95=>
 (idx OQ wX).bind fun _=>
 (upd OQ wX x_93.2).bind fun l_97=>
 q6z F Qa wX l_95 l_97
 else
 some (.done (Gq,OQ,Qa))
def q4e(F:Nat)(x_1:bM):Option (bM):=
 (mk 24 ([]:List (List Int)) (len x_1.aC.aj)).bind fun RB=>
 (iter (fun s=>VD F x_1 s.1 s.2.1 s.2.2.1 s.2.2.2) F (x_1.aC.aj,RB,0,0)).bind fun o=>
 q6y F x_1 o.1 o.2.1 o.2.2
def q4f(F:Nat)(f_1:bJ):Option ((List Int)×Int):=
 if (f_1.aU==0)=true then
 some ([],1)
 else
 if (decide ((len f_1.al)>65531))=true then
 some ([],4)
 else
 (q2o F [(tZ.mk 2 (wu64 (len f_1.al))),(tZ.mk 2 (wu64 f_1.aU))]).bind fun x_2=>
 if (x_2.2 != 0)=true then
 some ([],x_2.2)
 else
 (qa F [x_2.1,f_1.al]).bind fun x_3=>
 some (x_3,0)
def q70(_:Nat)(jJ:bM)(oh:List Int)(j3:Int)(Xe:bM):Option (aI×eH×Bool):=
 some ({ jJ.aC with Out:=Xe.aC.Out,aV:=Xe.aC.aV },(eH.mk j3 oh),true)
def q63(F:Nat)(jJ:bM)(oh:List Int)(j3:Int)(Xe:bM):Option (aI×eH×Bool):=
 q70 F jJ oh j3 Xe
def q5j(F:Nat)(jJ:bM)(iF:List Int×Int)(oh:List Int)(j3:Int):Option (aI×eH×Bool):=
 if (decide ((aK ((imax 0 (cZ jJ.aC.aV (len iF.1)))+(cZ (aK ((len iF.1)-(imax 0 (cZ jJ.aC.aV (len iF.1))))) (imax 27 (cZ jJ.aC.Length 251)))))≥(len iF.1)))=true then
 (sub jJ.aC.Out 1 (len jJ.aC.Out)).bind fun l_26=>
 q63 F jJ oh j3 ({ jJ with aC:={ jJ.aC with Out:=l_26,aV:=0 } })
 else
 q63 F jJ oh j3 ({ jJ with aC:={ jJ.aC with aV:=aK ((imax 0 (cZ jJ.aC.aV (len iF.1)))+(cZ (aK ((len iF.1)-(imax 0 (cZ jJ.aC.aV (len iF.1))))) (imax 27 (cZ jJ.aC.Length 251)))) } })
def q5k(F:Nat)(jJ:bM):Option (aI×eH×Bool):=
 if ((len jJ.aC.Out)==0)=true then
 some (jJ.aC,(eH.mk 0 []),false)
 else
 (idx jJ.aC.Out 0).bind fun om=>
 (q4f F om).bind fun iF=>
 (sub iF.1 (imax 0 (cZ jJ.aC.aV (len iF.1))) (aK ((imax 0 (cZ jJ.aC.aV (len iF.1)))+(cZ (aK ((len iF.1)-(imax 0 (cZ jJ.aC.aV (len iF.1))))) (imax 27 (cZ jJ.aC.Length 251)))))).bind fun aax=>
 (qa F [aax]).bind fun oh=>
 if (jJ.aC.aV==0)=true then
 q5j F jJ iF oh 2
 else
 q5j F jJ iF oh 1
def q14(F:Nat)(m_1:aI):Option (aI×eH×Bool):=
 (qg F m_1).bind fun x_2=>
 if ((len x_2.aC.Out)==0)=true then
 (q4e F x_2).bind fun Fy=>
 q5k F Fy
 else
 q5k F x_2
def q71(_:Nat)(a_1:kH)(tX:List Int):Option (kH):=
 some ({ a_1 with ao:=tX })
def q2r(F:Nat)(a_1:kH):Option (kH):=
 (qa F [a_1.ao]).bind fun fH=>
 q71 F a_1 fH
def q8o(_:Nat)(x_2:Int)(x_3:Int):Option (Int×Int):=
 some (x_2,x_3)
def q4g(F:Nat)(b_1:List Int):Option (Int×Int):=
 (idx b_1 0).bind fun cO=>
 (idx b_1 1).bind fun fH=>
 (idx b_1 2).bind fun jo=>
 (idx b_1 3).bind fun jG=>
 q8o F (uQ .i64 (aK cO) (mh .i64 (aK fH) 8)) (uQ .u16 (kI jo) (mh .u16 (kI jG) 8))
def q72(_:Nat)(fH:Int):Option (kH×List bJ×Int):=
 some ((kH.mk false []),[],fH)
def q5l(F:Nat)(e_2:Int)(cO:Int):Option (kH×List bJ×Int):=
 if (e_2==0)=true then
 q72 F cO
 else
 q72 F e_2
def q4h(F:Nat)(b_1:List Int)(e_2:Int):Option (kH×List bJ×Int):=
 if (decide ((len b_1)<4))=true then
 some ((kH.mk true b_1),[],e_2)
 else
 (q4g F b_1).bind fun x_3=>
 if (x_3.2==0)=true then
 q5l F e_2 1
 else
 if ((decide (x_3.1>65531))||(decide ((aK ((len b_1)-4))>x_3.1)))=true then
 q5l F e_2 4
 else
 if (decide ((aK ((len b_1)-4))<x_3.1))=true then
 some ((kH.mk true b_1),[],e_2)
 else
 (sub b_1 4 (len b_1)).bind fun OT=>
 (qa F [OT]).bind fun jG=>
 some ((kH.mk false []),[(bJ.mk x_3.2 jG)],e_2)
def q5m(F:Nat)(fH:Int)(OT:List Int):Option (kH×List bJ×Int):=
 (q4h F OT fH).bind fun jG=>
 some (jG.1,jG.2.1,jG.2.2)
def q5n(F:Nat)(nD:eH)(Ho:Int):Option (kH×List bJ×Int):=
 (qa F [nD.al]).bind fun tL=>
 q5m F Ho tL
def q3m(F:Nat)(a_1:kH)(nD:eH):Option (kH×List bJ×Int):=
 if ((nD.dO==1)&&((len nD.al)==0))=true then
 (q2r F a_1).bind fun x_3=>
 some (x_3,[],0)
 else
 if (((nD.dO != 1)&&(nD.dO != 2))||((len nD.al)==0))=true then
 (q2r F a_1).bind fun cO=>
 some (cO,[],12)
 else
 if (nD.dO==2)=true then
 if (!((!a_1.On)&&((len a_1.ao)==0)))=true then
 q5n F nD 13
 else
 q5n F nD 0
 else
 if ((!a_1.On)&&((len a_1.ao)==0))=true then
 some ((kH.mk false []),[],13)
 else
 (qa F [a_1.ao,nD.al]).bind fun Ag=>
 q5m F 0 Ag
def q5o(_:Nat)(c_1:aT)(nD:Int):Option (Bool×Int):=
 some ((c_1.ap==nD),nD)
def q8p(_:Nat)(x_3:Int):Option (Int×Int):=
 some ((-1),x_3)
def Ye(F:Nat)(s_1:List aT)(cO:Int)(fH:Int):Option (Out (Int×Int) (Sum (Int) (Int×Int))):=
 if (decide (fH<(len s_1)))=true then
 (idx s_1 fH).bind fun jo=>
 (q5o F jo cO).bind fun jG=>
 if jG.1=true then
 some (.done (.inr (fH,jG.2)))
 else
 some (.next (jG.2,aK (fH+1)))
 else
 some (.done (.inl (cO)))
def q4i(F:Nat)(s_1:List aT)(c_2:Int):Option (Int×Int):=
 (iter (fun s=>Ye F s_1 s.1 s.2) F (c_2,0)).bind fun o=>
 match o with
 | .inl u=>q8p F u
 | .inr u=>some u
def q15(F:Nat)(x_1:bM)(ni:Int):Option (Int):=
 (q4i F x_1.aC.aj ni).bind fun x_3=>
 some x_3.1
def qe(_:Nat)(x_1:bM)(e_2:gy):Option (bM):=
 (app 96 x_1.aq [e_2]).bind fun l_5=>
 some ({ x_1 with aq:=l_5 })
def q73(F:Nat)(MN:List Int)(l_5:List Int):Option ((List Int)×List Int×Int):=
 (qa F [MN]).bind fun jo=>
 some (l_5,jo,0)
def q74(_:Nat)(tL:Int)(Dk:List Int)(l_11:List Int):Option (Out ((List Int)×List Int×Int) ((List Int)×List Int)):=
 some (.next (Dk,l_11,aK (tL+1)))
def q75(F:Nat)(wT:List Int)(Ko:List Int)(tL:Int)(pI:Int)(Qi:Int):Option (Out ((List Int)×List Int×Int) ((List Int)×List Int)):=
 (app 8 Ko [Qi]).bind fun aaz=>
 (sub wT pI (len wT)).bind fun RB=>
 q74 F tL RB aaz
def UF(_:Nat)(wT:List Int)(pI:Int)(om:Int)(iF:Int):Option (Out (Int×Int) (Int)):=
 if (decide (iF<pI))=true then
 (idx wT iF).bind fun iM=>
 (Jo .u64 (wu64 iM) (aK (8*iF))).bind fun oh=>
 some (.next (uQ .u64 om oh,aK (iF+1)))
 else
 some (.done (om))
def Yd(F:Nat)(lC:List Int)(wT:List Int)(Ko:List Int)(tL:Int):Option (Out ((List Int)×List Int×Int) ((List Int)×List Int)):=
 if (decide (tL<(len lC)))=true then
 (idx lC tL).bind fun pI=>
 (iter (fun s=>UF F wT pI s.1 s.2) F (0,0)).bind fun o=>
 q75 F wT Ko tL pI o
 else
 some (.done (wT,Ko))
def q64(F:Nat)(b_1:List Int)(lC:List Int)(x_3:Int):Option ((List Int)×List Int×Int):=
 if (decide ((len b_1)<x_3))=true then
 some ([],[],3)
 else
 (iter (fun s=>Yd F lC s.1 s.2.1 s.2.2) F (b_1,[],0)).bind fun o=>
 q73 F o.1 o.2
def VB(F:Nat)(lC:List Int)(j3:Int)(kU:Int):Option (Out (Int×Int) (Sum (Int) ((List Int)×List Int×Int))):=
 if (decide (kU<(len lC)))=true then
 (idx lC kU).bind fun og=>
 (q2m F og).bind fun wY=>
 if (!wY)=true then
 some (.done (.inr ([],[],5)))
 else
 some (.next (aK (j3+og),aK (kU+1)))
 else
 some (.done (.inl (j3)))
def q2u(F:Nat)(b_1:List Int)(lC:List Int):Option ((List Int)×List Int×Int):=
 (iter (fun s=>VB F lC s.1 s.2) F (0,0)).bind fun o=>
 match o with
 | .inl u=>q64 F b_1 lC u
 | .inr u=>some u
def qc(_:Nat)(i_1:Int)(nD:List Int):Option (Int×List Int):=
 (idx nD i_1).bind fun x_3=>
 some (aK x_3,nD)
def qx(_:Nat)(i_1:Int)(nD:List Int):Option (Int×List Int):=
 (idx nD i_1).bind fun x_3=>
 some (kI x_3,nD)
def Yc(_:Nat)(s_1:aQ)(jJ:aQ):Option (aQ):=
 some ({ jJ with ae:=s_1.ae,ID:=s_1.ID })
def q76(F:Nat)(s_1:aQ)(tX:List Int)(Ku:Bool):Option (aQ):=
 if Ku=true then
 (qx F 0 tX).bind fun oh=>
 (qx F 1 oh.2).bind fun j3=>
 Yc F s_1 ({ s_1 with am:=oh.1,bT:=j3.1 })
 else
 if (s_1.ae==18)=true then
 (qc F 0 tX).bind fun kU=>
 (qc F 1 kU.2).bind fun og=>
 (qc F 2 og.2).bind fun wY=>
 (qc F 3 wY.2).bind fun NA=>
 (qc F 4 NA.2).bind fun Zc=>
 Yc F s_1 ({ s_1 with ai:=(jF.mk kU.1 og.1 wY.1 NA.1 Zc.1) })
 else
 if (s_1.ae==20)=true then
 (qx F 0 tX).bind fun Hz=>
 (qx F 1 Hz.2).bind fun Fy=>
 (qc F 2 Fy.2).bind fun UQ=>
 (qc F 3 UQ.2).bind fun Fw=>
 (qc F 4 Fw.2).bind fun Zb=>
 Yc F s_1 ({ s_1 with bQ:=Hz.1,am:=Fy.1,bZ:=UQ.1,cu:=Fw.1,aA:=Zb.1 })
 else
 if (s_1.ae==21)=true then
 (qx F 0 tX).bind fun x_31=>
 (qc F 1 x_31.2).bind fun tF=>
 (qc F 2 tF.2).bind fun y7=>
 (qc F 3 y7.2).bind fun qO=>
 (qc F 4 qO.2).bind fun oI=>
 Yc F s_1 ({ s_1 with am:=x_31.1,bZ:=tF.1,cu:=y7.1,aA:=qO.1,Result:=oI.1 })
 else
 if (s_1.ae==22)=true then
 (qx F 0 tX).bind fun iZ=>
 (qc F 1 iZ.2).bind fun Ab=>
 Yc F s_1 ({ s_1 with am:=iZ.1,aA:=Ab.1 })
 else
 Yc F s_1 s_1
def q77(F:Nat)(s_1:aQ)(tX:List Int)(YW:Bool):Option (aQ):=
 if YW=true then
 (qc F 0 tX).bind fun iF=>
 Yc F s_1 ({ s_1 with Result:=iF.1 })
 else
 if (s_1.ae==6)=true then
 q76 F s_1 tX (s_1.ae==6)
 else
 q76 F s_1 tX (s_1.ae==7)
def qh(F:Nat)(s_1:aQ)(tX:List Int):Option (aQ):=
 if (s_1.ae==1)=true then
 q77 F s_1 tX (s_1.ae==1)
 else
 q77 F s_1 tX (s_1.ae==19)
def q78(F:Nat)(Tf:aQ)(Ko:List Int)(l_9:List Int)(Ag:Int):Option (aQ×Int):=
 if (Ag != 0)=true then
 some ((aQ.mk 0 0 0 0 0 0 0 0 0 (jF.mk 0 0 0 0 0)),Ag)
 else
 if (decide ((len l_9)>0))=true then
 some ((aQ.mk 0 0 0 0 0 0 0 0 0 (jF.mk 0 0 0 0 0)),2)
 else
 (qh F ({ Tf with bQ:=0,am:=0,bT:=0,bZ:=0,cu:=0,aA:=0,Result:=0,ai:=(jF.mk 0 0 0 0 0) }) Ko).bind fun l8=>
 (q2l F l8).bind fun pI=>
 if (pI != 0)=true then
 some ((aQ.mk 0 0 0 0 0 0 0 0 0 (jF.mk 0 0 0 0 0)),pI)
 else
 some (l8,0)
def q65(F:Nat)(b_1:List Int)(Tf:aQ)(fH:Int)(jo:Int):Option (aQ×Int):=
 (q2g F Tf.ae).bind fun jG=>
 if (!jG)=true then
 some ((aQ.mk 0 0 0 0 0 0 0 0 0 (jF.mk 0 0 0 0 0)),12)
 else
 if (Tf.ID==0)=true then
 some ((aQ.mk 0 0 0 0 0 0 0 0 0 (jF.mk 0 0 0 0 0)),5)
 else
 if (fH != jo)=true then
 some ((aQ.mk 0 0 0 0 0 0 0 0 0 (jF.mk 0 0 0 0 0)),2)
 else
 (sub b_1 4 (len b_1)).bind fun RB=>
 (qt F Tf.ae).bind fun om=>
 (q2u F RB om).bind fun iF=>
 q78 F Tf iF.1 iF.2.1 iF.2.2
def q5p(_:Nat)(iM:List Int)(oh:Int)(j3:Int):Option (Out (Int×Int) (Int)):=
 if (decide (j3<(len iM)))=true then
 (idx iM j3).bind fun kU=>
 some (.next (aK (oh+kU),aK (j3+1)))
 else
 some (.done (oh))
def q66(F:Nat)(b_1:List Int)(Tf:aQ)(fH:Int):Option (aQ×Int):=
 (qt F Tf.ae).bind fun iM=>
 (iter (fun s=>q5p F iM s.1 s.2) F (0,0)).bind fun o=>
 q65 F b_1 Tf fH o
def q67(F:Nat)(b_1:List Int)(Tf:aQ):Option (aQ×Int):=
 (idx b_1 2).bind fun og=>
 (idx b_1 3).bind fun wY=>
 q66 F b_1 Tf (uQ .i64 (aK og) (mh .i64 (aK wY) 8))
def q3n(F:Nat)(b_1:List Int):Option (aQ×Int):=
 if (decide ((len b_1)<4))=true then
 some ((aQ.mk 0 0 0 0 0 0 0 0 0 (jF.mk 0 0 0 0 0)),3)
 else
 (idx b_1 0).bind fun Hz=>
 (idx b_1 1).bind fun Fy=>
 q67 F b_1 (aQ.mk (aK Hz) (aK Fy) 0 0 0 0 0 0 0 (jF.mk 0 0 0 0 0))
def q3o(_:Nat):Option (Unit):=
 some ()
def q4j(_:Nat)(mH:aQ)(kD:aQ):Option (Bool):=
 if (mH.ID != kD.ID)=true then
 some false
 else
 if (mH.ae==20)=true then
 some ((kD.ae==21)||(kD.ae==1))
 else
 if (mH.ae==6)=true then
 some ((kD.ae==1)||(((kD.ae==7)&&(kD.am==mH.am))&&(kD.bT==mH.bT)))
 else
 if (mH.ae==18)=true then
 some ((kD.ae==19)||(kD.ae==1))
 else
 some false
def q5q(F:Nat)(r_1:aQ)(nD:aQ):Option (Bool×aQ):=
 (q4j F r_1 nD).bind fun x_3=>
 some (x_3,nD)
def q8q(_:Nat)(yw:aQ):Option (Int×aQ):=
 some ((-1),yw)
def Yb(F:Nat)(s_1:List aQ)(Tg:aQ)(y7:Int):Option (Out (aQ×Int) (Sum (aQ) (Int×aQ))):=
 if (decide (y7<(len s_1)))=true then
 (idx s_1 y7).bind fun qO=>
 (q5q F qO Tg).bind fun oI=>
 if oI.1=true then
 some (.done (.inr (y7,oI.2)))
 else
 some (.next (oI.2,aK (y7+1)))
 else
 some (.done (.inl (Tg)))
def q4k(F:Nat)(s_1:List aQ)(c_2:aQ):Option (Int×aQ):=
 (iter (fun s=>Yb F s_1 s.1 s.2) F (c_2,0)).bind fun o=>
 match o with
 | .inl u=>q8q F u
 | .inr u=>some u
def q3p(_:Nat)(s_1:List aQ)(vU:Int)(j_3:Int):Option ((List aQ)):=
 if 0<=vU/\vU<=j_3/\j_3<=(s_1.length:Int)then
 some (s_1.take vU.toNat++s_1.drop j_3.toNat)
 else
 none
def q16(F:Nat)(x_1:bM)(s_2:aQ):Option (aQ×Bool×bM):=
 (q4k F x_1.aC.aB s_2).bind fun x_3=>
 if (decide (x_3.1<0))=true then
 some ((aQ.mk 0 0 0 0 0 0 0 0 0 (jF.mk 0 0 0 0 0)),false,x_1)
 else
 (idx x_1.aC.aB x_3.1).bind fun cO=>
 (q3p F x_1.aC.aB x_3.1 (aK (x_3.1+1))).bind fun fH=>
 some (cO,true,{ x_1 with aC:={ x_1.aC with aB:=fH } })
def q4l(_:Nat)(s_1:List aT)(vU:Int)(j_3:Int):Option ((List aT)):=
 if 0<=vU/\vU<=j_3/\j_3<=(s_1.length:Int)then
 some (s_1.take vU.toNat++s_1.drop j_3.toNat)
 else
 none
def q2x(F:Nat)(x_1:bM)(vU:Int):Option (bM):=
 (idx x_1.aC.aj vU).bind fun x_3=>
 (q4l F x_1.aC.aj vU (aK (vU+1))).bind fun cO=>
 (qe F ({ x_1 with aC:={ x_1.aC with aj:=cO } }) (gy.mk 4 x_3.ap [] 0 (jF.mk 0 0 0 0 0) 0)).bind fun fH=>
 some fH
def q2y(F:Nat)(x_1:bM)(Qu:Int):Option (bM):=
 (q15 F x_1 Qu).bind fun x_3=>
 if (decide (x_3≥0))=true then
 (q2x F x_1 x_3).bind fun cO=>
 some cO
 else
 some x_1
def q4m(F:Nat)(x_1:bM)(s_2:aQ):Option (bM):=
 (q16 F x_1 s_2).bind fun x_3=>
 if (!x_3.2.1)=true then
 some x_3.2.2
 else
 if (x_3.1.ae==20)=true then
 (qe F x_3.2.2 (gy.mk 5 x_3.1.am [] 1 (jF.mk 0 0 0 0 0) 0)).bind fun cO=>
 some cO
 else
 if (x_3.1.ae==6)=true then
 (q2y F x_3.2.2 x_3.1.am).bind fun fH=>
 some fH
 else
 if (x_3.1.ae==18)=true then
 (qe F x_3.2.2 (gy.mk 7 0 [] 1 (jF.mk 0 0 0 0 0) s_2.ID)).bind fun jo=>
 some jo
 else
 some x_3.2.2
def q68(F:Nat)(x_1:bM)(s_2:aQ)(x_3:Int)(z_4:Bool):Option (bM):=
 if z_4=true then
 (qf F x_1 ({ s_2 with ae:=1,bQ:=0,am:=0,bT:=0,bZ:=0,cu:=0,aA:=0,Result:=2,ai:=(jF.mk 0 0 0 0 0) })).bind fun fH=>
 some fH
 else
 (qf F x_1 ({ s_2 with ae:=7,bQ:=0,bZ:=0,cu:=0,aA:=0,Result:=0,ai:=(jF.mk 0 0 0 0 0) })).bind fun jo=>
 (q2x F jo x_3).bind fun jG=>
 some jG
def q4n(F:Nat)(x_1:bM)(s_2:aQ):Option (bM):=
 (q15 F x_1 s_2.bT).bind fun x_3=>
 if (decide (x_3<0))=true then
 q68 F x_1 s_2 x_3 true
 else
 (idx x_1.aC.aj x_3).bind fun l8=>
 q68 F x_1 s_2 x_3 (l8.ax != s_2.am)
def q4o(F:Nat)(x_1:bM)(s_2:aQ):Option (bM):=
 (q16 F x_1 s_2).bind fun x_3=>
 if x_3.2.1=true then
 (q2y F x_3.2.2 s_2.am).bind fun cO=>
 some cO
 else
 some x_3.2.2
def q4p(F:Nat)(x_1:bM)(s_2:aQ):Option (bM):=
 if (x_1.aC.iY==0)=true then
 (qe F x_1 (gy.mk 6 0 [] 0 s_2.ai s_2.ID)).bind fun x_3=>
 some x_3
 else
 (qf F x_1 ({ s_2 with ae:=1,bQ:=0,am:=0,bT:=0,bZ:=0,cu:=0,aA:=0,Result:=0,ai:=(jF.mk 0 0 0 0 0) })).bind fun cO=>
 some cO
def q4q(F:Nat)(x_1:bM)(s_2:aQ):Option (bM):=
 (q16 F x_1 s_2).bind fun x_3=>
 if x_3.2.1=true then
 (qe F x_3.2.2 (gy.mk 7 0 [] s_2.Result (jF.mk 0 0 0 0 0) s_2.ID)).bind fun cO=>
 some cO
 else
 some x_3.2.2
def q5r(_:Nat)(l_1:fA)(nD:aQ):Option (Bool×aQ):=
 some ((l_1.bQ==nD.bQ),nD)
def q8r(_:Nat)(yw:aQ):Option (Int×aQ):=
 some ((-1),yw)
def q3q(F:Nat)(s_1:List fA)(Tg:aQ)(y7:Int):Option (Out (aQ×Int) (Sum (aQ) (Int×aQ))):=
 if (decide (y7<(len s_1)))=true then
 (idx s_1 y7).bind fun qO=>
 (q5r F qO Tg).bind fun oI=>
 if oI.1=true then
 some (.done (.inr (y7,oI.2)))
 else
 some (.next (oI.2,aK (y7+1)))
 else
 some (.done (.inl (Tg)))
def q4r(F:Nat)(s_1:List fA)(c_2:aQ):Option (Int×aQ):=
 (iter (fun s=>q3q F s_1 s.1 s.2) F (c_2,0)).bind fun o=>
 match o with
 | .inl u=>q8r F u
 | .inr u=>some u
def q5s(_:Nat)(c_1:aT)(nD:Int):Option (Bool×Int):=
 some ((c_1.ax==nD),nD)
def q8s(_:Nat)(x_3:Int):Option (Int×Int):=
 some ((-1),x_3)
def q2z(F:Nat)(s_1:List aT)(cO:Int)(fH:Int):Option (Out (Int×Int) (Sum (Int) (Int×Int))):=
 if (decide (fH<(len s_1)))=true then
 (idx s_1 fH).bind fun jo=>
 (q5s F jo cO).bind fun jG=>
 if jG.1=true then
 some (.done (.inr (fH,jG.2)))
 else
 some (.next (jG.2,aK (fH+1)))
 else
 some (.done (.inl (cO)))
def q4s(F:Nat)(s_1:List aT)(c_2:Int):Option (Int×Int):=
 (iter (fun s=>q2z F s_1 s.1 s.2) F (c_2,0)).bind fun o=>
 match o with
 | .inl u=>q8s F u
 | .inr u=>some u
def q1j(F:Nat)(x_1:bM)(ni:Int):Option (Int):=
 (q4s F x_1.aC.aj ni).bind fun x_3=>
 some x_3.1
def q79(F:Nat)(x_1:bM)(x_3:Int×aQ)(cO:Int×Bool)(z_5:Bool):Option (fA×Int):=
 if z_5=true then
 some ((fA.mk 0 0 0 0 0),5)
 else
 if (!cO.2)=true then
 some ((fA.mk 0 0 0 0 0),4)
 else
 (q1j F x_1 x_3.2.am).bind fun jo=>
 if (decide (jo≥0))=true then
 some ((fA.mk 0 0 0 0 0),9)
 else
 (idx x_1.aC.ak x_3.1).bind fun jG=>
 some (jG,0)
def q5t(F:Nat)(x_1:bM)(s_2:aQ):Option (fA×Int):=
 (q4r F x_1.aC.ak s_2).bind fun x_3=>
 (q1c F x_1).bind fun cO=>
 if (decide (x_3.1<0))=true then
 some ((fA.mk 0 0 0 0 0),2)
 else
 (idx x_1.aC.ak x_3.1).bind fun Ho=>
 q79 F x_1 x_3 cO (decide (x_1.aC.bc<Ho.bc))
def q4t(_:Nat)(s_1:List aT)(vU:Int)(v_3:List aT):Option ((List aT)):=
 if 0<=vU/\vU<=(s_1.length:Int)/\v_3.length=1/\(s_1.length+1)*136<=140737488355328 then
 some (s_1.take vU.toNat++v_3++s_1.drop vU.toNat)
 else
 none
def q7a(_:Nat)(jJ:bM):Option (bM):=
 some jJ
def q7b(F:Nat)(x_1:bM)(c_2:aT)(Dj:List aT):Option (bM):=
 (qe F ({ x_1 with aC:={ x_1.aC with aj:=Dj } }) (gy.mk 2 c_2.ap [] 0 (jF.mk 0 0 0 0 0) 0)).bind fun iM=>
 q7a F iM
def q7c(F:Nat)(x_1:bM)(c_2:aT)(om:Int):Option (bM):=
 (q4t F x_1.aC.aj om [{ c_2 with bi:=(-1) }]).bind fun kU=>
 q7b F x_1 c_2 kU
def q4u(_:Nat)(og:Int)(z_23:Bool):Option (Out (Int) (Int)):=
 if z_23=true then
 some (.next (aK (og+1)))
 else
 some (.done (og))
def UE(F:Nat)(x_1:bM)(c_2:aT)(og:Int):Option (Out (Int) (Int)):=
 if (decide (og<(len x_1.aC.aj)))=true then
 (idx x_1.aC.aj og).bind fun Fy=>
 q4u F og (decide (Fy.ap<c_2.ap))
 else
 q4u F og false
def q30(F:Nat)(x_1:bM)(c_2:aT):Option (bM):=
 (iter (fun s=>UE F x_1 c_2 s) F (0)).bind fun o=>
 q7c F x_1 c_2 o
def q4v(F:Nat)(x_1:bM)(s_2:aQ):Option (bM):=
 (q5t F x_1 s_2).bind fun x_3=>
 if (x_3.2 != 0)=true then
 (qf F x_1 ({ s_2 with ae:=21,bQ:=0,am:=0,bT:=0,bZ:=0,cu:=0,aA:=0,Result:=x_3.2,ai:=(jF.mk 0 0 0 0 0) })).bind fun cO=>
 some cO
 else
 (q1c F x_1).bind fun fH=>
 (qf F x_1 (aQ.mk 21 s_2.ID 0 fH.1 0 x_3.1.bZ x_3.1.cu x_3.1.aA 0 (jF.mk 0 0 0 0 0))).bind fun jo=>
 (q30 F jo (aT.mk fH.1 s_2.am s_2.bQ x_3.1.bZ x_3.1.cu s_2.bZ s_2.cu s_2.aA x_3.1.aA x_3.1.aA [] 0 [] 0 false)).bind fun jG=>
 some jG
def q4w(F:Nat)(x_1:bM)(s_2:aQ):Option (bM):=
 (q16 F x_1 s_2).bind fun x_3=>
 if (!x_3.2.1)=true then
 some x_3.2.2
 else
 if (s_2.Result != 0)=true then
 (qe F x_3.2.2 (gy.mk 5 x_3.1.am [] s_2.Result (jF.mk 0 0 0 0 0) 0)).bind fun cO=>
 some cO
 else
 (q1j F x_3.2.2 s_2.am).bind fun fH=>
 if (decide (fH≥0))=true then
 (qe F x_3.2.2 (gy.mk 5 x_3.1.am [] 9 (jF.mk 0 0 0 0 0) 0)).bind fun jo=>
 some jo
 else
 (q30 F x_3.2.2 (aT.mk x_3.1.am s_2.am x_3.1.bQ x_3.1.bZ x_3.1.cu s_2.bZ s_2.cu s_2.aA x_3.1.aA x_3.1.aA [] 0 [] 0 false)).bind fun jG=>
 some jG
def q31(_:Nat)(Pf:Int)(Kl:Int):Option (Int):=
 if (decide (Kl<1))=true then
 some 5
 else
 if (decide (Kl>(aK (65535-Pf))))=true then
 some 19
 else
 some 0
def q69(_:Nat)(x_3:aT)(cO:Int)(c_7:aT):Option (aT×Int):=
 some ({ x_3 with aO:=c_7.aO,bd:=c_7.bd },cO)
def q3r(F:Nat)(c_1:aT)(Kl:Int):Option (aT×Int):=
 (qw F c_1).bind fun x_3=>
 if x_3.bd=true then
 some (x_3,9)
 else
 (q31 F x_3.aO Kl).bind fun cO=>
 if (cO==0)=true then
 q69 F x_3 cO ({ x_3 with aO:=aK (x_3.aO+Kl) })
 else
 q69 F x_3 cO ({ x_3 with bd:=true })
def VL(F:Nat)(x_1:bM)(vU:Int):Option (bM):=
 (idx x_1.aC.aj vU).bind fun x_3=>
 (qu F x_1 x_3).bind fun cO=>
 if (!cO)=true then
 (q1f F x_1 (aQ.mk 6 0 0 x_3.ap x_3.ax 0 0 0 0 (jF.mk 0 0 0 0 0))).bind fun fH=>
 some fH
 else
 some x_1
def q7d(F:Nat)(x_1:bM)(x_3:Int)(og:Int)(l_23:List aT):Option (bM):=
 if (og != 0)=true then
 (VL F ({ x_1 with aC:={ x_1.aC with aj:=l_23 } }) x_3).bind fun NA=>
 some NA
 else
 some ({ x_1 with aC:={ x_1.aC with aj:=l_23 } })
def q7e(F:Nat)(x_1:bM)(x_3:Int)(c_21:aT)(og:Int):Option (bM):=
 (idx x_1.aC.aj x_3).bind fun _=>
 (upd x_1.aC.aj x_3 c_21).bind fun l_28=>
 q7d F x_1 x_3 og l_28
def q4x(F:Nat)(x_1:bM)(s_2:aQ):Option (bM):=
 (q1j F x_1 s_2.am).bind fun x_3=>
 (if (decide (x_3<0))=true then
 some (true)
 else
 (idx x_1.aC.aj x_3).bind fun Zi=>
 (qu F x_1 Zi).bind fun Zh=>
 some (Zh)).bind fun z_5=>
 if z_5=true then
 some x_1
 else
 (idx x_1.aC.aj x_3).bind fun _=>
 (idx x_1.aC.aj x_3).bind fun acy=>
 (q3r F acy s_2.aA).bind fun XO=>
 q7e F x_1 x_3 XO.1 XO.2
def q7f(_:Nat)(abt:bM):Option (bM):=
 some abt
def q1y(F:Nat)(x_1:bM)(zX:List Int):Option (bM):=
 (q3n F zX).bind fun x_3=>
 if (x_3.2 != 0)=true then
 (if (decide ((len zX)≥2))=true then
 (idx zX 1).bind fun Hz=>
 some ((Hz != 0))
 else
 some (false)).bind fun Ku=>
 (if Ku=true then
 (idx zX 0).bind fun NA=>
 some ((NA != 1))
 else
 some (false)).bind fun z_20=>
 if z_20=true then
 (idx zX 1).bind fun kU=>
 (qf F x_1 (aQ.mk 1 (aK kU) 0 0 0 0 0 0 0 (jF.mk 0 0 0 0 0))).bind fun og=>
 q7f F og
 else
 q7f F x_1
 else
 if ((x_3.1.ae==1)||((x_3.1.ae==6)||((x_3.1.ae==7)||((x_3.1.ae==18)||((x_3.1.ae==19)||((x_3.1.ae==20)||((x_3.1.ae==21)||(x_3.1.ae==22))))))))=true then
 (q3o F).bind fun _=>
 if (x_3.1.ae==1)=true then
 (q4m F x_1 x_3.1).bind fun qO=>
 some qO
 else
 if (x_3.1.ae==6)=true then
 (q4n F x_1 x_3.1).bind fun oI=>
 some oI
 else
 if (x_3.1.ae==7)=true then
 (q4o F x_1 x_3.1).bind fun iZ=>
 some iZ
 else
 if (x_3.1.ae==18)=true then
 (q4p F x_1 x_3.1).bind fun Ab=>
 some Ab
 else
 if (x_3.1.ae==19)=true then
 (q4q F x_1 x_3.1).bind fun Qc=>
 some Qc
 else
 if (x_3.1.ae==20)=true then
 (q4v F x_1 x_3.1).bind fun Hy=>
 some Hy
 else
 if (x_3.1.ae==21)=true then
 (q4w F x_1 x_3.1).bind fun UO=>
 some UO
 else
 if (x_3.1.ae==22)=true then
 (q4x F x_1 x_3.1).bind fun Za=>
 some Za
 else
 none
 else
 (q3o F).bind fun _=>
 some x_1
def q8t(_:Nat)(c_1:aT)(zX:List Int):Option ((List Int)×Int×Int):=
 some (zX,c_1.bi,0)
def q7g(_:Nat)(c_1:aT)(zX:List Int)(fH:Int):Option ((List Int)×Int×Int):=
 if ((decide (fH>c_1.bZ))||(decide (fH<(aK ((len zX)-2)))))=true then
 some ([],0,4)
 else
 (sub zX 2 (len zX)).bind fun OT=>
 some (OT,fH,0)
def q4y(F:Nat)(c_1:aT)(zX:List Int):Option ((List Int)×Int×Int):=
 if (decide (c_1.aG<=0))=true then
 some ([],0,19)
 else
 if (decide ((len zX)>c_1.cu))=true then
 some ([],0,4)
 else
 if (c_1.bi != (-1))=true then
 if ((len zX)==0)=true then
 some ([],0,3)
 else
 if (decide ((aK ((len c_1.In)+(len zX)))>c_1.bi))=true then
 some ([],0,4)
 else
 q8t F c_1 zX
 else
 if (decide ((len zX)<2))=true then
 some ([],0,3)
 else
 (idx zX 0).bind fun jG=>
 (idx zX 1).bind fun Ho=>
 q7g F c_1 zX (uQ .i64 (aK jG) (mh .i64 (aK Ho) 8))
def q4z(F:Nat)(c_1:aT)(zX:List Int):Option (aT×(List (List Int))×Int):=
 (qw F c_1).bind fun x_3=>
 if x_3.bd=true then
 some (x_3,[],9)
 else
 (q4y F x_3 zX).bind fun cO=>
 if (cO.2.2 != 0)=true then
 some ({ x_3 with bd:=true },[],cO.2.2)
 else
 (qa F [x_3.In,cO.1]).bind fun fH=>
 if (decide ((len fH)<cO.2.1))=true then
 some ({ x_3 with aG:=aK (x_3.aG-1),In:=fH,bi:=cO.2.1 },[],0)
 else
 some ({ x_3 with aG:=aK (x_3.aG-1),In:=[],bi:=(-1) },[fH],0)
def q6a(_:Nat)(x_3:aT)(cO:Int)(fH:Int):Option (aT×Int):=
 some ({ x_3 with aG:=fH },cO)
def q50(F:Nat)(c_1:aT)(Kl:Int):Option (aT×Int):=
 (qw F c_1).bind fun x_3=>
 if x_3.bd=true then
 some (x_3,9)
 else
 (q31 F x_3.aG Kl).bind fun cO=>
 if (cO==0)=true then
 q6a F x_3 cO (aK (x_3.aG+Kl))
 else
 q6a F x_3 cO x_3.aG
def q7h(_:Nat)(abt:bM):Option (bM):=
 some abt
def q7i(F:Nat)(iM:aT×(List (List Int))×Int)(iQ:bM)(iZ:aT×Int)(l_37:List aT):Option (bM):=
 (q1r F ({ iQ with aC:={ iQ.aC with aj:=l_37 } })).bind fun UO=>
 (qf F UO.2 (aQ.mk 22 UO.1 0 iZ.1.ap 0 0 0 (aK (iM.1.bh-iM.1.aG)) 0 (jF.mk 0 0 0 0 0))).bind fun Za=>
 q7h F Za
def q7j(F:Nat)(vU:Int)(iM:aT×(List (List Int))×Int)(iQ:bM):Option (bM):=
 (if (decide ((aK (iM.1.bh-iM.1.aG))<=0))=true then
 some (true)
 else
 some (decide (iM.1.aG>(Ou .i64 iM.1.bh 2)))).bind fun Aa=>
 if Aa=true then
 some iQ
 else
 (q50 F iM.1 (aK (iM.1.bh-iM.1.aG))).bind fun iZ=>
 if (iZ.2==0)=true then
 (idx iQ.aC.aj vU).bind fun _=>
 (upd iQ.aC.aj vU iZ.1).bind fun l_45=>
 q7i F iM iQ iZ l_45
 else
 q7h F iQ
def UD(F:Nat)(iM:aT×(List (List Int))×Int)(Xb:bM)(Y4:Int):Option (Out (bM×Int) (bM)):=
 if (decide (Y4<(len iM.2.1)))=true then
 (idx iM.2.1 Y4).bind fun x_61=>
 (qe F Xb (gy.mk 3 iM.1.ap x_61 0 (jF.mk 0 0 0 0 0) 0)).bind fun x_62=>
 some (.next (x_62,aK (Y4+1)))
 else
 some (.done (Xb))
def q7k(F:Nat)(x_1:bM)(vU:Int)(iM:aT×(List (List Int))×Int)(zf:List aT):Option (bM):=
 if (iM.2.2 != 0)=true then
 (VL F ({ x_1 with aC:={ x_1.aC with aj:=zf } }) vU).bind fun j3=>
 some j3
 else
 (iter (fun s=>UD F iM s.1 s.2) F ({ x_1 with aC:={ x_1.aC with aj:=zf } },0)).bind fun o=>
 q7j F vU iM o
def q3s(F:Nat)(x_1:bM)(vU:Int)(YK:List Int):Option (bM):=
 (idx x_1.aC.aj vU).bind fun iF=>
 (q4z F iF YK).bind fun iM=>
 (idx x_1.aC.aj vU).bind fun _=>
 (upd x_1.aC.aj vU iM.1).bind fun l_66=>
 q7k F x_1 vU iM l_66
def q7l(_:Nat)(wF:bM):Option (aI×List gy):=
 some (wF.aC,wF.aq)
def q7m(F:Nat)(wF:bM):Option (aI×List gy):=
 q7l F wF
def q51(_:Nat)(iZ:Int)(c_49:bM):Option (Out (bM×Int) (bM)):=
 some (.next (c_49,aK (iZ+1)))
def q1z(F:Nat)(wT:List bJ)(zl:bM)(iZ:Int):Option (Out (bM×Int) (bM)):=
 if (decide (iZ<(len wT)))=true then
 (idx wT iZ).bind fun Hw=>
 (q15 F zl Hw.aU).bind fun Y6=>
 if ((Hw.aU==4)||(Hw.aU==6))=true then
 (qe F zl (gy.mk 1 Hw.aU Hw.al 0 (jF.mk 0 0 0 0 0) 0)).bind fun x_52=>
 q51 F iZ x_52
 else
 if (Hw.aU==5)=true then
 (q1y F zl Hw.al).bind fun x_53=>
 q51 F iZ x_53
 else
 (if (decide (Y6≥0))=true then
 (idx zl.aC.aj Y6).bind fun x_58=>
 (qu F zl x_58).bind fun Fv=>
 some ((!Fv))
 else
 some (false)).bind fun z_55=>
 if z_55=true then
 (q3s F zl Y6 Hw.al).bind fun Qb=>
 q51 F iZ Qb
 else
 q51 F iZ zl
 else
 some (.done (zl))
def q7n(F:Nat)(x_3:bM)(Kt:kH)(wT:List bJ):Option (aI×List gy):=
 (iter (fun s=>q1z F wT s.1 s.2) F ({ x_3 with aC:={ x_3.aC with ay:=Kt } },0)).bind fun o=>
 q7m F o
def qr(F:Nat)(m_1:aI)(nD:eH):Option (aI×List gy):=
 (qg F m_1).bind fun x_3=>
 (q3m F x_3.aC.ay nD).bind fun XP=>
 q7n F x_3 XP.1 XP.2.1
def q1m(F:Nat)(m_1:aI)(ni:Int)(YK:List Int):Option (aI×Int):=
 (qg F m_1).bind fun cO=>
 if ((ni != 4)&&(ni != 6))=true then
 some (cO.aC,5)
 else
 if (decide ((len YK)>4096))=true then
 some (cO.aC,4)
 else
 (q10 F cO).bind fun fH=>
 if fH=true then
 some (cO.aC,8)
 else
 (q1e F cO ni YK).bind fun jo=>
 some (jo.aC,0)
def q32(F:Nat)(x_1:bM)(ni:Int):Option (Int×Int):=
 (q15 F x_1 ni).bind fun x_3=>
 if (decide (x_3<0))=true then
 some (0,6)
 else
 (idx x_1.aC.aj x_3).bind fun cO=>
 (qu F x_1 cO).bind fun fH=>
 if fH=true then
 some (0,9)
 else
 some (x_3,0)
def q7o(_:Nat)(x_3:aT)(MN:List (List Int)):Option (aT×Int):=
 some ({ x_3 with Out:=MN },0)
def q52(F:Nat)(c_1:aT)(XY:List Int):Option (aT×Int):=
 (qw F c_1).bind fun x_3=>
 if x_3.bd=true then
 some (x_3,9)
 else
 if (decide ((len XY)>x_3.jQ))=true then
 some (x_3,4)
 else
 if (decide ((len x_3.Out)≥64))=true then
 some (x_3,8)
 else
 (qa F [XY]).bind fun jG=>
 (app 24 x_3.Out [jG]).bind fun Ko=>
 q7o F x_3 Ko
def q8u(_:Nat)(cO:bM)(Ko:List aT):Option (aI×Int):=
 some ({ cO.aC with aj:=Ko },0)
def q1n(F:Nat)(m_1:aI)(ni:Int)(YK:List Int):Option (aI×Int):=
 (qg F m_1).bind fun cO=>
 (q32 F cO ni).bind fun fH=>
 if (fH.2 != 0)=true then
 some (cO.aC,fH.2)
 else
 (idx cO.aC.aj fH.1).bind fun jo=>
 (q52 F jo YK).bind fun jG=>
 if (jG.2 != 0)=true then
 some (cO.aC,jG.2)
 else
 (idx cO.aC.aj fH.1).bind fun _=>
 (upd cO.aC.aj fH.1 jG.1).bind fun l_12=>
 q8u F cO l_12
def ql(_:Nat)(a_1:List Int)(zX:List Int):Option (Bool):=
 some ((str a_1)==(str zX))
def q20(F:Nat):Option (Bool):=
 (q12 F 0 []).bind fun x_1=>
 (q12 F 1 []).bind fun x_2=>
 (q1g F x_1.1 128 40 30 4).bind fun x_3=>
 (q14 F x_3.1).bind fun cO=>
 (qr F x_2.1 cO.2.1).bind fun fH=>
 (q14 F fH.1).bind fun jo=>
 (qr F cO.1 jo.2.1).bind fun jG=>
 (q1m F cO.1 5 []).bind fun Ho=>
 (q1n F cO.1 64 []).bind fun tL=>
 if ((((((((x_1.2 != 0)||(x_2.2 != 0))||(x_3.2.2 != 0))||(x_3.2.1 != 64))||(!cO.2.2))||((len jG.2) != 1))||(Ho.2 != 5))||(tL.2 != 6))=true then
 some false
 else
 (if (cO.2.1.dO==2)=true then
 (ql F cO.2.1.al [14,0,5,0,20,1,10,0,128,0,64,0,40,0,30,0,4,0]).bind fun Zc=>
 some (Zc)
 else
 some (false)).bind fun P6=>
 (if P6=true then
 (idx jG.2 0).bind fun wY=>
 some ((wY.ae==5))
 else
 some (false)).bind fun YZ=>
 (if YZ=true then
 (idx jG.2 0).bind fun kU=>
 some ((kU.aU==64))
 else
 some (false)).bind fun z_15=>
 (if z_15=true then
 (idx jG.2 0).bind fun oh=>
 some ((oh.Result==2))
 else
 some (false)).bind fun z_17=>
 some z_17
def qb(_:Nat)(Cy:Int):Option (Int):=
 some (aK (gU Cy 64))
def q33(F:Nat)(m_1:aI)(ni:Int):Option (aI×Int):=
 (qg F m_1).bind fun x_3=>
 (q32 F x_3 ni).bind fun cO=>
 if (cO.2 != 0)=true then
 some (x_3.aC,cO.2)
 else
 (q10 F x_3).bind fun fH=>
 if fH=true then
 some (x_3.aC,8)
 else
 (VL F x_3 cO.1).bind fun jo=>
 some (jo.aC,0)
def q5u(_:Nat)(s_1:aQ):Option (Bool):=
 some (s_1.ae==18)
def q8v(_:Nat):Option (Int):=
 some (-1)
def Ya(F:Nat)(s_1:List aQ)(x_2:Int):Option (Out (Int) (Sum (Unit) (Int))):=
 if (decide (x_2<(len s_1)))=true then
 (idx s_1 x_2).bind fun x_3=>
 (q5u F x_3).bind fun cO=>
 if cO=true then
 some (.done (.inr x_2))
 else
 some (.next (aK (x_2+1)))
 else
 some (.done (.inl ()))
def q5v(F:Nat)(s_1:List aQ):Option (Int):=
 (iter (fun s=>Ya F s_1 s) F (0)).bind fun o=>
 match o with
 | .inl _=>q8v F
 | .inr u=>some u
def q53(F:Nat)(s_1:List aQ):Option (Bool):=
 (q5v F s_1).bind fun x_2=>
 some (decide (x_2≥0))
def q35(F:Nat)(m_1:aI)(u_2:jF):Option (aI×Int):=
 (qg F m_1).bind fun x_3=>
 if (x_3.aC.iY != 1)=true then
 some (x_3.aC,9)
 else
 (q2k F u_2).bind fun cO=>
 if (cO != 0)=true then
 some (x_3.aC,cO)
 else
 (q53 F x_3.aC.aB).bind fun fH=>
 if fH=true then
 some (x_3.aC,20)
 else
 (q10 F x_3).bind fun jo=>
 if jo=true then
 some (x_3.aC,8)
 else
 (q1f F x_3 (aQ.mk 18 0 0 0 0 0 0 0 0 u_2)).bind fun jG=>
 some (jG.aC,0)
def q8w(_:Nat)(aW:bD)(yw:bD)(Ku:Bool):Option (Bool×bD):=
 some (Ku,{ aW with ah:=(yw.ah.1,aW.ah.2),aM:=(yw.aM.1,aW.aM.2),au:=yw.au,ab:=yw.ab })
def q5w(_:Nat)(aW:bD)(iQ:bD)(qO:Int)(Aa:Bool)(iZ:aI×eH×Bool):Option (Out (bD×Int×Bool) (Sum (bD×Bool) (Bool×bD))):=
 if (!iZ.2.2)=true then
 some (.done (.inr (Aa,{ aW with ah:=(iZ.1,aW.ah.2),aM:=(iQ.aM.1,aW.aM.2),au:=iQ.au,ab:=iQ.ab })))
 else
 (app 32 iQ.aM.1 [iZ.2.1]).bind fun aav=>
 some (.next ({ aW with ah:=(iZ.1,aW.ah.2),aM:=(aav,aW.aM.2),au:=iQ.au,ab:=iQ.ab },aK (qO-1),true))
def X9(F:Nat)(aW:bD)(iQ:bD)(qO:Int)(Aa:Bool):Option (Out (bD×Int×Bool) (Sum (bD×Bool) (Bool×bD))):=
 if (decide (qO>0))=true then
 (q14 F iQ.ah.1).bind fun iZ=>
 q5w F aW iQ qO Aa iZ
 else
 some (.done (.inl ({ aW with ah:=(iQ.ah.1,aW.ah.2),aM:=(iQ.aM.1,aW.aM.2),au:=iQ.au,ab:=iQ.ab },Aa)))
def q37(F:Nat)(aW:bD)(Kl:Int):Option (Bool×bD):=
 (iter (fun s=>X9 F aW s.1 s.2.1 s.2.2) F (aW,Kl,false)).bind fun o=>
 match o with
 | .inl u=>q8w F aW u.1 u.2
 | .inr u=>some u
def q1o(F:Nat)(m_1:aI)(id_2:Int)(AR:Int):Option (aI×Int):=
 (qg F m_1).bind fun cO=>
 if (cO.aC.iY != 0)=true then
 some (cO.aC,9)
 else
 (qo F id_2 1 255).bind fun fH=>
 if ((!fH)||((AR != 0)&&(AR != 1)))=true then
 some (cO.aC,5)
 else
 (q10 F cO).bind fun jo=>
 if jo=true then
 some (cO.aC,8)
 else
 (qf F cO (aQ.mk 19 id_2 0 0 0 0 0 0 AR (jF.mk 0 0 0 0 0))).bind fun jG=>
 some (jG.aC,0)
def qm(_:Nat)(aW:bD)(wF:bD):Option (bD):=
 some ({ wF with ah:=(aW.ah.1,wF.ah.2),aM:=aW.aM,ar:=(wF.ar.1,aW.ar.2),frame:=aW.frame })
def q3t(F:Nat)(aW:bD)(YU:Bool):Option (bD):=
 if YU=true then
 some ({ aW with frame:=true })
 else
 (sub aW.ar.1 1 (len aW.ar.1)).bind fun aaw=>
 qm F aW ({ aW with ar:=(aaw,aW.ar.2) })
def q8x(F:Nat)(aW:bD)(Te:bD):Option (bD):=
 qm F aW ({ aW with au:=Te.au,ab:=Te.ab,data:=true })
def q54(_:Nat)(aW:bD)(gJ:bD)(rA:Int)(abG:(Nat->(List (List Int)))):Option (Out (bD×Int) (Sum (bD) (bD))):=
 some (.next ({ aW with au:=abG,ab:=gJ.ab },aK (rA+1)))
def PV(F:Nat)(aW:bD)(x_2:gy)(gJ:bD)(rA:Int):Option (Out (bD×Int) (Sum (bD) (bD))):=
 if (decide (rA<(len aW.ah.2.aj)))=true then
 (idx aW.ah.2.aj rA).bind fun CY=>
 (qb F CY.ax).bind fun Y7=>
 (Ao 64 Y7).bind fun jh=>
 if ((CY.ap==x_2.aU)&&(decide ((len (gJ.au jh))>0)))=true then
 (idx (gJ.au jh) 0).bind fun Y5=>
 (ql F Y5 x_2.bk).bind fun Qb=>
 if Qb=true then
 (sub (gJ.au jh) 1 (len (gJ.au jh))).bind fun aat=>
 some (.done (.inr ({ aW with au:=(aF (aF gJ.au jh []) jh aat),ab:=gJ.ab })))
 else
 q54 F aW gJ rA (aF (aF gJ.au jh []) jh (gJ.au jh))
 else
 q54 F aW gJ rA (aF (aF gJ.au jh []) jh (gJ.au jh))
 else
 some (.done (.inl ({ aW with au:=gJ.au,ab:=gJ.ab })))
def q7p(F:Nat)(aW:bD)(Cz:aI)(rz:Int):Option (bD):=
 if (rz != 0)=true then
 qm F aW ({ aW with ah:=(aW.ah.1,Cz),params:=(-1000) })
 else
 qm F aW ({ aW with ah:=(aW.ah.1,Cz) })
def q7q(F:Nat)(aW:bD)(Cz:aI)(rz:Int):Option (bD):=
 q7p F aW Cz rz
def q55(F:Nat)(aW:bD)(x_2:gy):Option (bD):=
 (qb F x_2.aU).bind fun kU=>
 if (x_2.ae==2)=true then
 (Ao 64 kU).bind fun RG=>
 qm F aW ({ aW with au:=(aF aW.au (64+RG) []),ab:=(aF aW.ab (64+RG) false) })
 else
 if (x_2.ae==5)=true then
 (if aW.answer=true then
 some (true)
 else
 (Ao 64 kU).bind fun RF=>
 some ((!(aW.ab (64+RF))))).bind fun YV=>
 (Ao 64 kU).bind fun aaP=>
 qm F aW ({ aW with ab:=(aF aW.ab (64+aaP) false),answer:=YV })
 else
 if (x_2.ae==1)=true then
 if ((len aW.ar.1)==0)=true then
 q3t F aW true
 else
 (idx aW.ar.1 0).bind fun oI=>
 if (oI.aU != x_2.aU)=true then
 q3t F aW true
 else
 (idx aW.ar.1 0).bind fun Ab=>
 (ql F Ab.al x_2.bk).bind fun Qc=>
 q3t F aW (!Qc)
 else
 if (x_2.ae==3)=true then
 (iter (fun s=>PV F aW x_2 s.1 s.2) F (aW,0)).bind fun o=>
 match o with
 | .inl u=>q8x F aW u
 | .inr u=>some u
 else
 if (x_2.ae==6)=true then
 (q1o F aW.ah.2 x_2.ID (gU x_2.ai.aN 2)).bind fun Af=>
 q7q F aW Af.1 Af.2
 else
 if (x_2.ae==7)=true then
 qm F aW ({ aW with params:=aK (aW.params-1),answer:=(aW.answer||((aK (aW.params-1))==(-1))) })
 else
 qm F aW aW
def q8y(_:Nat)(zl:bD):Option (bD):=
 some zl
def q7r(_:Nat)(nZ:Int)(Tj:bD):Option (Out (bD×Int) (bD)):=
 some (.next (Tj,aK (nZ-1)))
def PU(F:Nat)(lM:List gy)(JR:bD)(Ad:Int):Option (Out (bD×Int) (bD)):=
 if (decide (Ad<(len lM)))=true then
 (idx lM Ad).bind fun Qg=>
 (q55 F JR Qg).bind fun Qf=>
 some (.next (Qf,aK (Ad+1)))
 else
 some (.done (JR))
def q7s(F:Nat)(iG:bD)(nZ:Int)(sw:aI)(lM:List gy)(BZ:List eH):Option (Out (bD×Int) (bD)):=
 (iter (fun s=>PU F lM s.1 s.2) F ({ iG with ah:=(iG.ah.1,sw),aM:=(BZ,iG.aM.2) },0)).bind fun o=>
 q7r F nZ o
def q7t(F:Nat)(iG:bD)(nZ:Int)(sw:aI)(lM:List gy)(BZ:List eH):Option (Out (bD×Int) (bD)):=
 q7s F iG nZ sw lM BZ
def q7u(F:Nat)(iG:bD)(nZ:Int)(sw:aI)(lM:List gy):Option (Out (bD×Int) (bD)):=
 (sub iG.aM.1 1 (len iG.aM.1)).bind fun RA=>
 q7t F iG nZ sw lM RA
def X8(F:Nat)(iG:bD)(nZ:Int):Option (Out (bD×Int) (bD)):=
 if ((decide (nZ>0))&&(decide ((len iG.aM.1)>0)))=true then
 (idx iG.aM.1 0).bind fun _=>
 (idx iG.aM.1 0).bind fun Kv=>
 (qr F iG.ah.2 Kv).bind fun Ae=>
 q7u F iG nZ Ae.1 Ae.2
 else
 some (.done (iG))
def q39(F:Nat)(aW:bD)(Kl:Int):Option (bD):=
 (iter (fun s=>X8 F s.1 s.2) F (aW,Kl)).bind fun o=>
 q8y F o
def q3a(F:Nat)(m_1:aI)(V6:Int):Option (aI):=
 (qg F m_1).bind fun x_3=>
 some ({ x_3.aC with bc:=imax 0 (cZ V6 2) })
def q8z(_:Nat)(aW:bD)(yw:bD)(Ku:Bool):Option (Bool×bD):=
 some (Ku,{ aW with ah:=(aW.ah.1,yw.ah.2),aM:=(aW.aM.1,yw.aM.2),au:=yw.au,ab:=yw.ab })
def q5x(_:Nat)(aW:bD)(iQ:bD)(qO:Int)(Aa:Bool)(iZ:aI×eH×Bool):Option (Out (bD×Int×Bool) (Sum (bD×Bool) (Bool×bD))):=
 if (!iZ.2.2)=true then
 some (.done (.inr (Aa,{ aW with ah:=(aW.ah.1,iZ.1),aM:=(aW.aM.1,iQ.aM.2),au:=iQ.au,ab:=iQ.ab })))
 else
 (app 32 iQ.aM.2 [iZ.2.1]).bind fun aav=>
 some (.next ({ aW with ah:=(aW.ah.1,iZ.1),aM:=(aW.aM.1,aav),au:=iQ.au,ab:=iQ.ab },aK (qO-1),true))
def X7(F:Nat)(aW:bD)(iQ:bD)(qO:Int)(Aa:Bool):Option (Out (bD×Int×Bool) (Sum (bD×Bool) (Bool×bD))):=
 if (decide (qO>0))=true then
 (q14 F iQ.ah.2).bind fun iZ=>
 q5x F aW iQ qO Aa iZ
 else
 some (.done (.inl ({ aW with ah:=(aW.ah.1,iQ.ah.2),aM:=(aW.aM.1,iQ.aM.2),au:=iQ.au,ab:=iQ.ab },Aa)))
def q3c(F:Nat)(aW:bD)(Kl:Int):Option (Bool×bD):=
 (iter (fun s=>X7 F aW s.1 s.2.1 s.2.2) F (aW,Kl,false)).bind fun o=>
 match o with
 | .inl u=>q8z F aW u.1 u.2
 | .inr u=>some u
def qn(_:Nat)(aW:bD)(wF:bD):Option (bD):=
 some ({ wF with ah:=(wF.ah.1,aW.ah.2),aM:=aW.aM,ar:=(aW.ar.1,wF.ar.2),frame:=aW.frame })
def Z9(F:Nat)(aW:bD)(YU:Bool):Option (bD):=
 if YU=true then
 some ({ aW with frame:=true })
 else
 (sub aW.ar.2 1 (len aW.ar.2)).bind fun aaw=>
 qn F aW ({ aW with ar:=(aW.ar.1,aaw) })
def q90(F:Nat)(aW:bD)(Te:bD):Option (bD):=
 qn F aW ({ aW with au:=Te.au,ab:=Te.ab,data:=true })
def q56(_:Nat)(aW:bD)(gJ:bD)(rA:Int)(abG:(Nat->(List (List Int)))):Option (Out (bD×Int) (Sum (bD) (bD))):=
 some (.next ({ aW with au:=abG,ab:=gJ.ab },aK (rA+1)))
def PS(F:Nat)(aW:bD)(x_2:gy)(gJ:bD)(rA:Int):Option (Out (bD×Int) (Sum (bD) (bD))):=
 if (decide (rA<(len aW.ah.1.aj)))=true then
 (idx aW.ah.1.aj rA).bind fun CY=>
 (qb F CY.ax).bind fun Y7=>
 (Ao 64 Y7).bind fun jh=>
 if ((CY.ap==x_2.aU)&&(decide ((len (gJ.au (64+jh)))>0)))=true then
 (idx (gJ.au (64+jh)) 0).bind fun Y5=>
 (ql F Y5 x_2.bk).bind fun Qb=>
 if Qb=true then
 (sub (gJ.au (64+jh)) 1 (len (gJ.au (64+jh)))).bind fun aat=>
 some (.done (.inr ({ aW with au:=(aF (aF gJ.au (64+jh) []) (64+jh) aat),ab:=gJ.ab })))
 else
 q56 F aW gJ rA (aF (aF gJ.au (64+jh) []) (64+jh) (gJ.au (64+jh)))
 else
 q56 F aW gJ rA (aF (aF gJ.au (64+jh) []) (64+jh) (gJ.au (64+jh)))
 else
 some (.done (.inl ({ aW with au:=gJ.au,ab:=gJ.ab })))
def q7v(F:Nat)(aW:bD)(Cz:aI)(rz:Int):Option (bD):=
 if (rz != 0)=true then
 qn F aW ({ aW with ah:=(Cz,aW.ah.2),params:=(-1000) })
 else
 qn F aW ({ aW with ah:=(Cz,aW.ah.2) })
def q7w(F:Nat)(aW:bD)(Cz:aI)(rz:Int):Option (bD):=
 q7v F aW Cz rz
def q57(F:Nat)(aW:bD)(x_2:gy):Option (bD):=
 (qb F x_2.aU).bind fun kU=>
 if (x_2.ae==2)=true then
 (Ao 64 kU).bind fun RG=>
 qn F aW ({ aW with au:=(aF aW.au RG []),ab:=(aF aW.ab RG false) })
 else
 if (x_2.ae==5)=true then
 (if aW.answer=true then
 some (true)
 else
 (Ao 64 kU).bind fun RF=>
 some ((!(aW.ab RF)))).bind fun YV=>
 (Ao 64 kU).bind fun aaP=>
 qn F aW ({ aW with ab:=(aF aW.ab aaP false),answer:=YV })
 else
 if (x_2.ae==1)=true then
 if ((len aW.ar.2)==0)=true then
 Z9 F aW true
 else
 (idx aW.ar.2 0).bind fun oI=>
 if (oI.aU != x_2.aU)=true then
 Z9 F aW true
 else
 (idx aW.ar.2 0).bind fun Ab=>
 (ql F Ab.al x_2.bk).bind fun Qc=>
 Z9 F aW (!Qc)
 else
 if (x_2.ae==3)=true then
 (iter (fun s=>PS F aW x_2 s.1 s.2) F (aW,0)).bind fun o=>
 match o with
 | .inl u=>q90 F aW u
 | .inr u=>some u
 else
 if (x_2.ae==6)=true then
 (q1o F aW.ah.1 x_2.ID (gU x_2.ai.aN 2)).bind fun Af=>
 q7w F aW Af.1 Af.2
 else
 if (x_2.ae==7)=true then
 qn F aW ({ aW with params:=aK (aW.params-1),answer:=(aW.answer||((aK (aW.params-1))==(-1))) })
 else
 qn F aW aW
def q91(_:Nat)(zl:bD):Option (bD):=
 some zl
def q7x(_:Nat)(nZ:Int)(Tj:bD):Option (Out (bD×Int) (bD)):=
 some (.next (Tj,aK (nZ-1)))
def PO(F:Nat)(lM:List gy)(JR:bD)(Ad:Int):Option (Out (bD×Int) (bD)):=
 if (decide (Ad<(len lM)))=true then
 (idx lM Ad).bind fun Qg=>
 (q57 F JR Qg).bind fun Qf=>
 some (.next (Qf,aK (Ad+1)))
 else
 some (.done (JR))
def q7y(F:Nat)(iG:bD)(nZ:Int)(sw:aI)(lM:List gy)(BZ:List eH):Option (Out (bD×Int) (bD)):=
 (iter (fun s=>PO F lM s.1 s.2) F ({ iG with ah:=(sw,iG.ah.2),aM:=(iG.aM.1,BZ) },0)).bind fun o=>
 q7x F nZ o
def q7z(F:Nat)(iG:bD)(nZ:Int)(sw:aI)(lM:List gy)(BZ:List eH):Option (Out (bD×Int) (bD)):=
 q7y F iG nZ sw lM BZ
def q80(F:Nat)(iG:bD)(nZ:Int)(sw:aI)(lM:List gy):Option (Out (bD×Int) (bD)):=
 (sub iG.aM.2 1 (len iG.aM.2)).bind fun RA=>
 q7z F iG nZ sw lM RA
def X6(F:Nat)(iG:bD)(nZ:Int):Option (Out (bD×Int) (bD)):=
 if ((decide (nZ>0))&&(decide ((len iG.aM.2)>0)))=true then
 (idx iG.aM.2 0).bind fun _=>
 (idx iG.aM.2 0).bind fun Kv=>
 (qr F iG.ah.1 Kv).bind fun Ae=>
 q80 F iG nZ Ae.1 Ae.2
 else
 some (.done (iG))
def q3e(F:Nat)(aW:bD)(Kl:Int):Option (bD):=
 (iter (fun s=>X6 F s.1 s.2) F (aW,Kl)).bind fun o=>
 q91 F o
def qj(_:Nat)(aW:bD)(c_8:bD)(wF:aI):Option (bD):=
 some ({ aW with ah:=(wF,aW.ah.2),au:=c_8.au,ar:=(c_8.ar.1,aW.ar.2),ab:=c_8.ab,params:=c_8.params })
def qk(_:Nat)(aW:bD)(Xc:bD)(c_64:aI):Option (bD):=
 some ({ aW with ah:=(aW.ah.1,c_64),au:=Xc.au,ar:=(aW.ar.1,Xc.ar.2),ab:=Xc.ab,params:=Xc.params })
def q21(F:Nat)(aW:bD)(x_2:Fe):Option (bD):=
 if (aK (gU x_2.bj 2)==0)=true then
 if (x_2.ae==0)=true then
 (q1g F aW.ah.1 x_2.bQ x_2.bZ x_2.cu x_2.aA).bind fun wY=>
 if (wY.2.2==0)=true then
 (qb F wY.2.1).bind fun Hz=>
 (Ao 64 Hz).bind fun RF=>
 qj F aW ({ aW with ab:=(aF aW.ab RF true) }) wY.1
 else
 qj F aW aW wY.1
 else
 if (x_2.ae==1)=true then
 (q33 F aW.ah.1 x_2.aU).bind fun UQ=>
 qj F aW aW UQ.1
 else
 if (x_2.ae==2)=true then
 (q1n F aW.ah.1 x_2.aU x_2.aw).bind fun Fw=>
 if (Fw.2==0)=true then
 (qb F x_2.aU).bind fun Zb=>
 (Ao 64 Zb).bind fun Gt=>
 (app 24 (aW.au Gt) [x_2.aw]).bind fun l_34=>
 qj F aW ({ aW with au:=(aF (aF aW.au Gt []) Gt l_34) }) Fw.1
 else
 qj F aW aW Fw.1
 else
 if (x_2.ae==3)=true then
 (q1m F aW.ah.1 x_2.aU x_2.aw).bind fun Hy=>
 if (Hy.2==0)=true then
 (app 32 aW.ar.1 [(bJ.mk x_2.aU x_2.aw)]).bind fun l_42=>
 qj F aW ({ aW with ar:=(l_42,aW.ar.2) }) Hy.1
 else
 qj F aW aW Hy.1
 else
 if (x_2.ae==4)=true then
 (q35 F aW.ah.1 x_2.ai).bind fun Y9=>
 if (Y9.2==0)=true then
 qj F aW ({ aW with params:=aK (aW.params+1) }) Y9.1
 else
 qj F aW aW Y9.1
 else
 if (x_2.ae==5)=true then
 (q37 F aW (aK x_2.N)).bind fun Y8=>
 some Y8.2
 else
 if (x_2.ae==6)=true then
 (q39 F aW (aK x_2.N)).bind fun rA=>
 some rA
 else
 if (x_2.ae==7)=true then
 (q3a F aW.ah.1 (aK x_2.N)).bind fun x_46=>
 qj F aW aW x_46
 else
 qj F aW aW aW.ah.1
 else
 if (aK (gU x_2.bj 2)==1)=true then
 if (x_2.ae==0)=true then
 (q1g F aW.ah.2 x_2.bQ x_2.bZ x_2.cu x_2.aA).bind fun UN=>
 if (UN.2.2==0)=true then
 (qb F UN.2.1).bind fun x_70=>
 (Ao 64 x_70).bind fun j_71=>
 qk F aW ({ aW with ab:=(aF aW.ab (64+j_71) true) }) UN.1
 else
 qk F aW aW UN.1
 else
 if (x_2.ae==1)=true then
 (q33 F aW.ah.2 x_2.aU).bind fun x_72=>
 qk F aW aW x_72.1
 else
 if (x_2.ae==2)=true then
 (q1n F aW.ah.2 x_2.aU x_2.aw).bind fun rz=>
 if (rz.2==0)=true then
 (qb F x_2.aU).bind fun Y3=>
 (Ao 64 Y3).bind fun Gs=>
 (app 24 (aW.au (64+Gs)) [x_2.aw]).bind fun l_78=>
 qk F aW ({ aW with au:=(aF (aF aW.au (64+Gs) []) (64+Gs) l_78) }) rz.1
 else
 qk F aW aW rz.1
 else
 if (x_2.ae==3)=true then
 (q1m F aW.ah.2 x_2.aU x_2.aw).bind fun Y2=>
 if (Y2.2==0)=true then
 (app 32 aW.ar.2 [(bJ.mk x_2.aU x_2.aw)]).bind fun l_86=>
 qk F aW ({ aW with ar:=(aW.ar.1,l_86) }) Y2.1
 else
 qk F aW aW Y2.1
 else
 if (x_2.ae==4)=true then
 (q35 F aW.ah.2 x_2.ai).bind fun P9=>
 if (P9.2==0)=true then
 qk F aW ({ aW with params:=aK (aW.params+1) }) P9.1
 else
 qk F aW aW P9.1
 else
 if (x_2.ae==5)=true then
 (q3c F aW (aK x_2.N)).bind fun x_88=>
 some x_88.2
 else
 if (x_2.ae==6)=true then
 (q3e F aW (aK x_2.N)).bind fun x_89=>
 some x_89
 else
 if (x_2.ae==7)=true then
 (q3a F aW.ah.2 (aK x_2.N)).bind fun Y1=>
 qk F aW aW Y1
 else
 qk F aW aW aW.ah.2
 else
 none
def q92(_:Nat)(c_92:bD):Option (bD×Bool):=
 some (c_92,false)
def q6b(_:Nat)(HV:Int)(yD:Bool×bD)(acr:Bool):Option (Out (bD×Int) (Sum (bD) (bD×Bool))):=
 if acr=true then
 some (.done (.inr (yD.2,true)))
 else
 some (.next (yD.2,aK (HV+1)))
def q22(F:Nat)(YI:bD)(HV:Int):Option (Out (bD×Int) (Sum (bD) (bD×Bool))):=
 if (decide (HV<20000))=true then
 (q39 F YI 100).bind fun acE=>
 (q3e F acE 100).bind fun acD=>
 (q37 F acD 20).bind fun XT=>
 (q3c F XT.2 20).bind fun yD=>
 if ((!XT.1)&&(!yD.1))=true then
 q6b F HV yD ((aK ((len yD.2.aM.1)+(len yD.2.aM.2)))==0)
 else
 q6b F HV yD false
 else
 some (.done (.inl (YI)))
def q81(F:Nat)(Xb:bD):Option (bD×Bool):=
 (iter (fun s=>q22 F s.1 s.2) F (Xb,0)).bind fun o=>
 match o with
 | .inl u=>q92 F u
 | .inr u=>some u
def VA(F:Nat)(t_1:uS)(YH:bD)(Qe:Int):Option (Out (bD×Int) (bD)):=
 if (decide (Qe<(len t_1.eP)))=true then
 (idx t_1.eP Qe).bind fun acC=>
 (q21 F YH acC).bind fun acB=>
 some (.next (acB,aK (Qe+1)))
 else
 some (.done (YH))
def q6c(F:Nat)(t_1:uS)(c_26:bD):Option (bD×Bool):=
 (iter (fun s=>VA F t_1 s.1 s.2) F ({ c_26 with aM:=(([]:List eH),([]:List eH)),ar:=(([]:List bJ),([]:List bJ)),params:=0,data:=false,frame:=false,answer:=false },0)).bind fun o=>
 q81 F o
def q82(_:Nat)(su:bD)(aeZ:bD)(acA:Int):Option (Out (bD×Int) (Sum (bD) (bD×Bool))):=
 some (.next ({ su with ah:=aeZ.ah,aM:=(([]:List eH),([]:List eH)),ar:=(([]:List bJ),([]:List bJ)),params:=0,data:=false,frame:=false,answer:=false },aK (acA+1)))
def qi(F:Nat)(t_1:uS)(su:bD)(Qd:Int):Option (Out (bD×Int) (Sum (bD) (bD×Bool))):=
 if (decide (Qd<2))=true then
 if (Qd==0)=true then
 (q12 F 0 t_1.ak.1).bind fun XR=>
 if (XR.2 != 0)=true then
 some (.done (.inr ({ su with aM:=(([]:List eH),([]:List eH)),ar:=(([]:List bJ),([]:List bJ)),params:=0,data:=false,frame:=false,answer:=false },false)))
 else
 q82 F su ({ su with ah:=({ XR.1 with Length:=t_1.bL.1 },su.ah.2),aM:=(([]:List eH),([]:List eH)),ar:=(([]:List bJ),([]:List bJ)),params:=0,data:=false,frame:=false,answer:=false }) 0
 else
 if (Qd==1)=true then
 (q12 F 1 t_1.ak.2).bind fun XQ=>
 if (XQ.2 != 0)=true then
 some (.done (.inr ({ su with aM:=(([]:List eH),([]:List eH)),ar:=(([]:List bJ),([]:List bJ)),params:=0,data:=false,frame:=false,answer:=false },false)))
 else
 q82 F su ({ su with ah:=(su.ah.1,{ XQ.1 with Length:=t_1.bL.2 }),aM:=(([]:List eH),([]:List eH)),ar:=(([]:List bJ),([]:List bJ)),params:=0,data:=false,frame:=false,answer:=false }) 1
 else
 none
 else
 some (.done (.inl ({ su with aM:=(([]:List eH),([]:List eH)),ar:=(([]:List bJ),([]:List bJ)),params:=0,data:=false,frame:=false,answer:=false })))
def q3v(F:Nat)(t_1:uS):Option (bD×Bool):=
 (iter (fun s=>qi F t_1 s.1 s.2) F ((bD.mk ((aI.mk 0 0 [] [] [] 0 (kH.mk false []) [] 0 0),(aI.mk 0 0 [] [] [] 0 (kH.mk false []) [] 0 0)) (([]:List eH),([]:List eH)) (fun _=>[]) (([]:List bJ),([]:List bJ)) (fun _=>false) 0 false false false),0)).bind fun o=>
 match o with
 | .inl u=>q6c F t_1 u
 | .inr u=>some u
def q3w(_:Nat)(Km:Int):Option (Bool):=
 some ((decide (Km≥23))&&(decide (Km<=4096)))
def q5y(_:Nat)(Km:Int):Option (Bool):=
 some ((decide (Km≥0))&&(decide (Km<=65535)))
def q83(_:Nat)(mU:Int)(bY:List fA):Option (aI×Int):=
 (app 40 ([]:List fA) bY).bind fun PX=>
 some ((aI.mk mU 0 PX [] [] 1 (kH.mk false []) [] 0 27),0)
def q84(_:Nat)(cO:Int):Option (Out (Int) (Sum (Unit) (aI×Int))):=
 some (.next (aK (cO+1)))
def q85(F:Nat)(cO:Int)(fH:fA):Option (Out (Int) (Sum (Unit) (aI×Int))):=
 (q3w F fH.bZ).bind fun jo=>
 (if (!jo)=true then
 some (true)
 else
 (q3w F fH.cu).bind fun Qh=>
 some ((!Qh))).bind fun z_8=>
 (if z_8=true then
 some (true)
 else
 (q5y F fH.aA).bind fun pI=>
 some ((!pI))).bind fun P7=>
 if ((P7||(decide (fH.bc<0)))||(decide (fH.bc>2)))=true then
 some (.done (.inr ((aI.mk 0 0 [] [] [] 0 (kH.mk false []) [] 0 0),5)))
 else
 q84 F cO
def q86(_:Nat)(qP:Int)(YW:Bool):Option (Out (Int) (Sum (Unit) (aI×Int))):=
 if YW=true then
 some (.done (.inr ((aI.mk 0 0 [] [] [] 0 (kH.mk false []) [] 0 0),7)))
 else
 some (.next (aK (qP+1)))
def X5(F:Nat)(bY:List fA)(cO:Int)(fH:fA)(qP:Int):Option (Out (Int) (Sum (Unit) (aI×Int))):=
 if (decide (qP<cO))=true then
 (idx bY qP).bind fun iF=>
 q86 F qP (iF.bQ==fH.bQ)
 else
 some (.done (.inl ()))
def X4(F:Nat)(bY:List fA)(cO:Int):Option (Out (Int) (Sum (Unit) (aI×Int))):=
 if (decide (cO<(len bY)))=true then
 (idx bY cO).bind fun fH=>
 if (fH.bQ==0)=true then
 some (.done (.inr ((aI.mk 0 0 [] [] [] 0 (kH.mk false []) [] 0 0),1)))
 else
 (iter (fun s=>X5 F bY cO fH s) F (0)).bind fun o=>
 match o with
 | .inl _=>q85 F cO fH
 | .inr u=>some (.done (.inr u))
 else
 some (.done (.inl ()))
def q3h(F:Nat)(mU:Int)(bY:List fA):Option (aI×Int):=
 if ((mU != 0)&&(mU != 1))=true then
 some ((aI.mk 0 0 [] [] [] 0 (kH.mk false []) [] 0 0),1)
 else
 if (decide ((len bY)>64))=true then
 some ((aI.mk 0 0 [] [] [] 0 (kH.mk false []) [] 0 0),4)
 else
 (iter (fun s=>X4 F bY s) F (0)).bind fun o=>
 match o with
 | .inl _=>q83 F mU bY
 | .inr u=>some u
def q58(F:Nat)(t_1:uS):Option (Bool):=
 (q3h F 0 t_1.ak.1).bind fun x_2=>
 (q3h F 1 t_1.ak.2).bind fun x_3=>
 some ((x_2.2 != 0)||(x_3.2 != 0))
def q87(F:Nat)(cO:bD×Bool):Option (Bool):=
 (if ((!cO.1.answer)&&(decide (cO.1.params<=0)))=true then
 (q20 F).bind fun Qi=>
 some (Qi)
 else
 some (false)).bind fun P6=>
 some P6
def q88(F:Nat)(cO:bD×Bool):Option (Bool):=
 q87 F cO
def q89(F:Nat)(cO:bD×Bool):Option (Bool):=
 q88 F cO
def q59(_:Nat)(cO:bD×Bool)(Qh:Int):Option (Out (Int) (Sum (Unit) (Bool))):=
 if (decide (Qh<64))=true then
 (Ao 64 Qh).bind fun j_15=>
 if (cO.1.ab (64+j_15))=true then
 some (.done (.inr false))
 else
 some (.next (aK (Qh+1)))
 else
 some (.done (.inl ()))
def q8a(F:Nat)(cO:bD×Bool):Option (Bool):=
 (iter (fun s=>q59 F cO s) F (0)).bind fun o=>
 match o with
 | .inl _=>q89 F cO
 | .inr u=>some u
def q8b(F:Nat)(cO:bD×Bool):Option (Bool):=
 q8a F cO
def q5a(_:Nat)(cO:bD×Bool)(om:Int):Option (Out (Int) (Sum (Unit) (Bool))):=
 if (decide (om<64))=true then
 (Ao 64 om).bind fun j_17=>
 if (cO.1.ab j_17)=true then
 some (.done (.inr false))
 else
 some (.next (aK (om+1)))
 else
 some (.done (.inl ()))
def q3x(F:Nat)(t_1:uS):Option (Bool):=
 (q3y F t_1).bind fun x_2=>
 if (!x_2)=true then
 (q20 F).bind fun x_3=>
 some x_3
 else
 (q3v F t_1).bind fun cO=>
 if (!cO.2)=true then
 (q58 F t_1).bind fun fH=>
 (if fH=true then
 (q20 F).bind fun tL=>
 some (tL)
 else
 some (false)).bind fun z_7=>
 some z_7
 else
 (iter (fun s=>q5a F cO s) F (0)).bind fun o=>
 match o with
 | .inl _=>q8b F cO
 | .inr u=>some u
end V
end Go.Proofs.YtbgfhaahhdnogaaGreat
