/- Each argument type opened. -/
import Derived.Test.YtbgfhaahhdnogaaGreatArrO
namespace Go.Proofs.YtbgfhaahhdnogaaGreat
namespace V
open Go.ChangeShapes Go.WideShapes Go.ChangeAt Go.RowKit Go.Deep
theorem own:ownKnob Tryz.prog.godebug=none:=by kernel_rfl
theorem laidOut:laidOutB Tryz.prog=true:=by kernel_rfl
instance:Inhabited fA:=⟨⟨default,default,default,default,default⟩⟩
def Gx0(c:fA):Prop:=(kN .u16) c.bQ/\(kN .i64) c.bZ/\(kN .i64) c.cu/\(kN .i64) c.aA/\(kN .i64) c.bc
theorem Oz:Opens Tryz.prog 83 5 dw Gx0:=fun {H enc w fuel cs x} h hw=>by
 obtain⟨hl,hf⟩:=sJ Tryz.underlying83 h hw;have hl:cs.length=5:=hl.trans (by kernel_rfl);refine⟨hl,?_⟩;obtain⟨d0,r0,g0⟩:=bK (dJ Tryz.underlying41) hf 0 0 1 rfl (by kernel_rfl);obtain⟨d1,r1,g1⟩:=bK (dJ Tryz.underlying3) hf 1 1 1 rfl (by kernel_rfl);obtain⟨d2,r2,g2⟩:=bK (dJ Tryz.underlying3) hf 2 2 1 rfl (by kernel_rfl);obtain⟨d3,r3,g3⟩:=bK (dJ Tryz.underlying3) hf 3 3 1 rfl (by kernel_rfl);obtain⟨d4,r4,g4⟩:=bK (dJ Tryz.underlying3) hf 4 4 1 rfl (by kernel_rfl);obtain⟨c0,c1,c2,c3,c4,rfl⟩:∃c0 c1 c2 c3 c4,cs=[c0,c1,c2,c3,c4]:=by
  clear h hw hf r0 g0 r1 g1 r2 g2 r3 g3 r4 g4
  match cs,hl with
  | [c0,c1,c2,c3,c4],_=>exact⟨c0,c1,c2,c3,c4,rfl⟩
 have e0:c0=Value.int .u16 d0:=jI (l:=[c0]) (m:=[Value.int .u16 d0]) 0 r0;have e1:c1=Value.int .i64 d1:=jI (l:=[c1]) (m:=[Value.int .i64 d1]) 0 r1;have e2:c2=Value.int .i64 d2:=jI (l:=[c2]) (m:=[Value.int .i64 d2]) 0 r2;have e3:c3=Value.int .i64 d3:=jI (l:=[c3]) (m:=[Value.int .i64 d3]) 0 r3;have e4:c4=Value.int .i64 d4:=jI (l:=[c4]) (m:=[Value.int .i64 d4]) 0 r4;subst e0 e1 e2 e3 e4;exact⟨⟨d0,d1,d2,d3,d4⟩,rfl,⟨g0,g1,g2,g3,g4⟩⟩
theorem EC:Opens Tryz.prog 22 1 (aL 5 dw) (Kg Gx0):=rU Tryz.underlying22 (by kernel_rfl) (by kernel_rfl) Oz
def afc:RT ((List fA)×(List fA)):=fun U w cs x=>∃(A0:Option Addr) (k0:Nat) (A1:Option Addr) (k1:Nat),cs=[.slice A0 (List.length x.1) k0,.slice A1 (List.length x.2) k1]/\Sl 5 dw U w A0 k0 x.1/\Sl 5 dw U w A1 k1 x.2
def YQ(x:((List fA)×(List fA))):Prop:=(Kg Gx0) x.1/\(Kg Gx0) x.2
theorem OD:Opens Tryz.prog 51 2 afc YQ:=fun {H enc w fuel cs x} h hw=>by
 obtain⟨hl,hf⟩:=JU Tryz.underlying51 h hw;have hl:cs.length=2:=hl.trans (by kernel_rfl);obtain⟨d0,r0,g0⟩:=array_elem EC hf 0 0 1 (by decide) (by kernel_rfl) rfl;obtain⟨d1,r1,g1⟩:=array_elem EC hf 1 1 1 (by decide) (by kernel_rfl) rfl;clear h hw hf
 match cs,hl with
 | [c0,c1],_=>
   obtain⟨A0,k0,s0,f0⟩:=r0;have e0:c0=Value.slice A0 (List.length d0) k0:=jI (l:=[c0]) (m:=[Value.slice A0 (List.length d0) k0]) 0 s0;obtain⟨A1,k1,s1,f1⟩:=r1;have e1:c1=Value.slice A1 (List.length d1) k1:=jI (l:=[c1]) (m:=[Value.slice A1 (List.length d1) k1]) 0 s1;subst e0 e1;exact⟨rfl,⟨d0,d1⟩,⟨A0,k0,A1,k1,rfl,f0,f1⟩,g0,g1⟩
def afb:RT (Int×Int):=fun _ _ cs x=>cs=[.int .i64 x.1,.int .i64 x.2]
def YP(x:(Int×Int)):Prop:=(kN .i64) x.1/\(kN .i64) x.2
theorem OC:Opens Tryz.prog 52 2 afb YP:=fun {H enc w fuel cs x} h hw=>by
 obtain⟨hl,hf⟩:=JU Tryz.underlying52 h hw;have hl:cs.length=2:=hl.trans (by kernel_rfl);obtain⟨d0,r0,g0⟩:=array_elem (dJ Tryz.underlying3) hf 0 0 1 (by decide) (by kernel_rfl) rfl;obtain⟨d1,r1,g1⟩:=array_elem (dJ Tryz.underlying3) hf 1 1 1 (by decide) (by kernel_rfl) rfl;clear h hw hf
 match cs,hl with
 | [c0,c1],_=>
   have e0:c0=Value.int .i64 d0:=jI (l:=[c0]) (m:=[Value.int .i64 d0]) 0 r0;have e1:c1=Value.int .i64 d1:=jI (l:=[c1]) (m:=[Value.int .i64 d1]) 0 r1;subst e0 e1;exact⟨rfl,(d0,d1),rfl,g0,g1⟩
theorem OG:Opens Tryz.prog 26 1 (aL 1 R8) (Kg (kN .u8)):=rU Tryz.underlying26 (by kernel_rfl) (by kernel_rfl) (dJ Tryz.underlying5)
instance:Inhabited jF:=⟨⟨default,default,default,default,default⟩⟩
def Gx1(c:jF):Prop:=(kN .i64) c.bO/\(kN .i64) c.aY/\(kN .i64) c.aE/\(kN .i64) c.aN/\(kN .i64) c.ba
theorem OE:Opens Tryz.prog 43 5 Rx1 Gx1:=fun {H enc w fuel cs x} h hw=>by
 obtain⟨hl,hf⟩:=sJ Tryz.underlying43 h hw;have hl:cs.length=5:=hl.trans (by kernel_rfl);refine⟨hl,?_⟩;obtain⟨d0,r0,g0⟩:=bK (dJ Tryz.underlying3) hf 0 0 1 rfl (by kernel_rfl);obtain⟨d1,r1,g1⟩:=bK (dJ Tryz.underlying3) hf 1 1 1 rfl (by kernel_rfl);obtain⟨d2,r2,g2⟩:=bK (dJ Tryz.underlying3) hf 2 2 1 rfl (by kernel_rfl);obtain⟨d3,r3,g3⟩:=bK (dJ Tryz.underlying3) hf 3 3 1 rfl (by kernel_rfl);obtain⟨d4,r4,g4⟩:=bK (dJ Tryz.underlying3) hf 4 4 1 rfl (by kernel_rfl);obtain⟨c0,c1,c2,c3,c4,rfl⟩:∃c0 c1 c2 c3 c4,cs=[c0,c1,c2,c3,c4]:=by
  clear h hw hf r0 g0 r1 g1 r2 g2 r3 g3 r4 g4
  match cs,hl with
  | [c0,c1,c2,c3,c4],_=>exact⟨c0,c1,c2,c3,c4,rfl⟩
 have e0:c0=Value.int .i64 d0:=jI (l:=[c0]) (m:=[Value.int .i64 d0]) 0 r0;have e1:c1=Value.int .i64 d1:=jI (l:=[c1]) (m:=[Value.int .i64 d1]) 0 r1;have e2:c2=Value.int .i64 d2:=jI (l:=[c2]) (m:=[Value.int .i64 d2]) 0 r2;have e3:c3=Value.int .i64 d3:=jI (l:=[c3]) (m:=[Value.int .i64 d3]) 0 r3;have e4:c4=Value.int .i64 d4:=jI (l:=[c4]) (m:=[Value.int .i64 d4]) 0 r4;subst e0 e1 e2 e3 e4;exact⟨⟨d0,d1,d2,d3,d4⟩,rfl,⟨g0,g1,g2,g3,g4⟩⟩
instance:Inhabited Fe:=⟨⟨default,default,default,default,default,default,default,default,default,default⟩⟩
def Gx2(c:Fe):Prop:=(kN .u8) c.bj/\(kN .u8) c.ae/\(kN .u8) c.N/\(kN .u16) c.bQ/\(kN .u16) c.aU/\(kN .i64) c.bZ/\(kN .i64) c.cu/\(kN .i64) c.aA/\(Kg (kN .u8)) c.aw/\Gx1 c.ai
theorem KW:Opens Tryz.prog 106 14 Hg Gx2:=fun {H enc w fuel cs x} h hw=>by
 obtain⟨hl,hf⟩:=sJ Tryz.underlying106 h hw;have hl:cs.length=14:=hl.trans (by kernel_rfl);refine⟨hl,?_⟩;obtain⟨d0,r0,g0⟩:=bK (dJ Tryz.underlying5) hf 0 0 1 rfl (by kernel_rfl);obtain⟨d1,r1,g1⟩:=bK (dJ Tryz.underlying5) hf 1 1 1 rfl (by kernel_rfl);obtain⟨d2,r2,g2⟩:=bK (dJ Tryz.underlying5) hf 2 2 1 rfl (by kernel_rfl);obtain⟨d3,r3,g3⟩:=bK (dJ Tryz.underlying41) hf 3 3 1 rfl (by kernel_rfl);obtain⟨d4,r4,g4⟩:=bK (dJ Tryz.underlying41) hf 4 4 1 rfl (by kernel_rfl);obtain⟨d5,r5,g5⟩:=bK (dJ Tryz.underlying3) hf 5 5 1 rfl (by kernel_rfl);obtain⟨d6,r6,g6⟩:=bK (dJ Tryz.underlying3) hf 6 6 1 rfl (by kernel_rfl);obtain⟨d7,r7,g7⟩:=bK (dJ Tryz.underlying3) hf 7 7 1 rfl (by kernel_rfl);obtain⟨d8,r8,g8⟩:=bK OG hf 8 8 1 rfl (by kernel_rfl);obtain⟨d9,r9,g9⟩:=bK OE hf 9 9 5 rfl (by kernel_rfl);obtain⟨c0,c1,c2,c3,c4,c5,c6,c7,c8,c9,c10,c11,c12,c13,rfl⟩:∃c0 c1 c2 c3 c4 c5 c6 c7 c8 c9 c10 c11 c12 c13,cs=[c0,c1,c2,c3,c4,c5,c6,c7,c8,c9,c10,c11,c12,c13]:=by
  clear h hw hf r0 g0 r1 g1 r2 g2 r3 g3 r4 g4 r5 g5 r6 g6 r7 g7 r8 g8 r9 g9
  match cs,hl with
  | [c0,c1,c2,c3,c4,c5,c6,c7,c8,c9,c10,c11,c12,c13],_=>exact⟨c0,c1,c2,c3,c4,c5,c6,c7,c8,c9,c10,c11,c12,c13,rfl⟩
 have e0:c0=Value.int .u8 d0:=jI (l:=[c0]) (m:=[Value.int .u8 d0]) 0 r0;have e1:c1=Value.int .u8 d1:=jI (l:=[c1]) (m:=[Value.int .u8 d1]) 0 r1;have e2:c2=Value.int .u8 d2:=jI (l:=[c2]) (m:=[Value.int .u8 d2]) 0 r2;have e3:c3=Value.int .u16 d3:=jI (l:=[c3]) (m:=[Value.int .u16 d3]) 0 r3;have e4:c4=Value.int .u16 d4:=jI (l:=[c4]) (m:=[Value.int .u16 d4]) 0 r4;have e5:c5=Value.int .i64 d5:=jI (l:=[c5]) (m:=[Value.int .i64 d5]) 0 r5;have e6:c6=Value.int .i64 d6:=jI (l:=[c6]) (m:=[Value.int .i64 d6]) 0 r6;have e7:c7=Value.int .i64 d7:=jI (l:=[c7]) (m:=[Value.int .i64 d7]) 0 r7;obtain⟨abK,aaM,r8,f8_0⟩:=r8;have e8:c8=Value.slice abK (List.length d8) aaM:=jI (l:=[c8]) (m:=[Value.slice abK (List.length d8) aaM]) 0 r8;have e9:c9=Value.int .i64 d9.bO:=jI (l:=[c9,c10,c11,c12,c13]) (m:=[Value.int .i64 d9.bO,Value.int .i64 d9.aY,Value.int .i64 d9.aE,Value.int .i64 d9.aN,Value.int .i64 d9.ba]) 0 r9;have e10:c10=Value.int .i64 d9.aY:=jI (l:=[c9,c10,c11,c12,c13]) (m:=[Value.int .i64 d9.bO,Value.int .i64 d9.aY,Value.int .i64 d9.aE,Value.int .i64 d9.aN,Value.int .i64 d9.ba]) 1 r9;have e11:c11=Value.int .i64 d9.aE:=jI (l:=[c9,c10,c11,c12,c13]) (m:=[Value.int .i64 d9.bO,Value.int .i64 d9.aY,Value.int .i64 d9.aE,Value.int .i64 d9.aN,Value.int .i64 d9.ba]) 2 r9;have e12:c12=Value.int .i64 d9.aN:=jI (l:=[c9,c10,c11,c12,c13]) (m:=[Value.int .i64 d9.bO,Value.int .i64 d9.aY,Value.int .i64 d9.aE,Value.int .i64 d9.aN,Value.int .i64 d9.ba]) 3 r9;have e13:c13=Value.int .i64 d9.ba:=jI (l:=[c9,c10,c11,c12,c13]) (m:=[Value.int .i64 d9.bO,Value.int .i64 d9.aY,Value.int .i64 d9.aE,Value.int .i64 d9.aN,Value.int .i64 d9.ba]) 4 r9;subst e0 e1 e2 e3 e4 e5 e6 e7 e8 e9 e10 e11 e12 e13;exact⟨⟨d0,d1,d2,d3,d4,d5,d6,d7,d8,d9⟩,⟨abK,aaM,rfl,f8_0⟩,⟨g0,g1,g2,g3,g4,g5,g6,g7,g8,g9⟩⟩
theorem OB:Opens Tryz.prog 53 1 (aL 14 Hg) (Kg Gx2):=rU Tryz.underlying53 (by kernel_rfl) (by kernel_rfl) KW
instance:Inhabited uS:=⟨⟨default,default,default⟩⟩
def Gx3(c:uS):Prop:=YQ c.ak/\YP c.bL/\(Kg Gx2) c.eP
theorem OA:Opens Tryz.prog 55 5 Rx3 Gx3:=fun {H enc w fuel cs x} h hw=>by
 obtain⟨hl,hf⟩:=sJ Tryz.underlying55 h hw;have hl:cs.length=5:=hl.trans (by kernel_rfl);refine⟨hl,?_⟩;obtain⟨d0,r0,g0⟩:=bK OD hf 0 0 2 rfl (by kernel_rfl);obtain⟨d1,r1,g1⟩:=bK OC hf 1 2 2 rfl (by kernel_rfl);obtain⟨d2,r2,g2⟩:=bK OB hf 2 4 1 rfl (by kernel_rfl);obtain⟨c0,c1,c2,c3,c4,rfl⟩:∃c0 c1 c2 c3 c4,cs=[c0,c1,c2,c3,c4]:=by
  clear h hw hf r0 g0 r1 g1 r2 g2
  match cs,hl with
  | [c0,c1,c2,c3,c4],_=>exact⟨c0,c1,c2,c3,c4,rfl⟩
 obtain⟨PL,OV,PK,OU,r0,abh,abg⟩:=r0;have e0:c0=Value.slice PL (List.length d0.1) OV:=jI (l:=[c0,c1]) (m:=[Value.slice PL (List.length d0.1) OV,Value.slice PK (List.length d0.2) OU]) 0 r0;have e1:c1=Value.slice PK (List.length d0.2) OU:=jI (l:=[c0,c1]) (m:=[Value.slice PL (List.length d0.1) OV,Value.slice PK (List.length d0.2) OU]) 1 r0;have e2:c2=Value.int .i64 d1.1:=jI (l:=[c2,c3]) (m:=[Value.int .i64 d1.1,Value.int .i64 d1.2]) 0 r1;have e3:c3=Value.int .i64 d1.2:=jI (l:=[c2,c3]) (m:=[Value.int .i64 d1.1,Value.int .i64 d1.2]) 1 r1;obtain⟨abL,aaN,r2,f2_0⟩:=r2;have e4:c4=Value.slice abL (List.length d2) aaN:=jI (l:=[c4]) (m:=[Value.slice abL (List.length d2) aaN]) 0 r2;subst e0 e1 e2 e3 e4;exact⟨⟨d0,d1,d2⟩,⟨PL,OV,PK,OU,abL,aaN,rfl,abh,abg,f2_0⟩,⟨g0,g1,g2⟩⟩
end V
end Go.Proofs.YtbgfhaahhdnogaaGreat
