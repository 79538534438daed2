/- Each argument type opened. -/
import Derived.Test.YtbgfhaahhdnogaaGreatArrO
namespace Go.Proofs.YtbgfhaahhdnogaaGreat
namespace V
open Go.ChangeShapes Go.WideShapes Go.ChangeAt Go.RowKit Go.Deep
theorem own:ownKnob Tryz.prog.godebug=none:=by kernel_rfl
theorem laidOut:laidOutB Tryz.prog=true:=by kernel_rfl
instance:Inhabited fI:=⟨⟨default,default,default,default,default⟩⟩
def Gx0(c:fI):Prop:=(kZ .u16) c.bT/\(kZ .i64) c.dh/\(kZ .i64) c.cZ/\(kZ .i64) c.aA/\(kZ .i64) c.bh
theorem PZ:Opens Tryz.prog 83 5 dA Gx0:=fun {H enc w fuel cs x} h hw=>by
 obtain⟨hl,hf⟩:=tY Tryz.underlying83 h hw;have hl:cs.length=5:=hl.trans (by kernel_rfl);refine⟨hl,?_⟩;obtain⟨d0,r0,g0⟩:=bN (dO Tryz.underlying41) hf 0 0 1 rfl (by kernel_rfl);obtain⟨d1,r1,g1⟩:=bN (dO Tryz.underlying3) hf 1 1 1 rfl (by kernel_rfl);obtain⟨d2,r2,g2⟩:=bN (dO Tryz.underlying3) hf 2 2 1 rfl (by kernel_rfl);obtain⟨d3,r3,g3⟩:=bN (dO Tryz.underlying3) hf 3 3 1 rfl (by kernel_rfl);obtain⟨d4,r4,g4⟩:=bN (dO Tryz.underlying3) hf 4 4 1 rfl (by kernel_rfl);obtain⟨c0,c1,c2,c3,c4,rfl⟩:∃c0 c1 c2 c3 c4,cs=[c0,c1,c2,c3,c4]:=by
  clear h hw hf r0 g0 r1 g1 r2 g2 r3 g3 r4 g4
  match cs,hl with
  | [c0,c1,c2,c3,c4],_=>exact⟨c0,c1,c2,c3,c4,rfl⟩
 have e0:c0=Value.int .u16 d0:=jS (l:=[c0]) (m:=[Value.int .u16 d0]) 0 r0;have e1:c1=Value.int .i64 d1:=jS (l:=[c1]) (m:=[Value.int .i64 d1]) 0 r1;have e2:c2=Value.int .i64 d2:=jS (l:=[c2]) (m:=[Value.int .i64 d2]) 0 r2;have e3:c3=Value.int .i64 d3:=jS (l:=[c3]) (m:=[Value.int .i64 d3]) 0 r3;have e4:c4=Value.int .i64 d4:=jS (l:=[c4]) (m:=[Value.int .i64 d4]) 0 r4;subst e0 e1 e2 e3 e4;exact⟨⟨d0,d1,d2,d3,d4⟩,rfl,⟨g0,g1,g2,g3,g4⟩⟩
theorem FD:Opens Tryz.prog 22 1 (aN 5 dA) (Ld Gx0):=sV Tryz.underlying22 (by kernel_rfl) (by kernel_rfl) PZ
def agU:RT (List fI×List fI):=fun U w cs x=>∃(A0:Option Addr) (k0:Nat) (A1:Option Addr) (k1:Nat),cs=[.slice A0 (List.length x.1) k0,.slice A1 (List.length x.2) k1]/\Sl 5 dA U w A0 k0 x.1/\Sl 5 dA U w A1 k1 x.2
def aam(x:(List fI×List fI)):Prop:=(Ld Gx0) x.1/\(Ld Gx0) x.2
theorem P8:Opens Tryz.prog 51 2 agU aam:=fun {H enc w fuel cs x} h hw=>by
 obtain⟨hl,hf⟩:=KV Tryz.underlying51 h hw;have hl:cs.length=2:=hl.trans (by kernel_rfl);obtain⟨d0,r0,g0⟩:=array_elem FD hf 0 0 1 (by decide) (by kernel_rfl) rfl;obtain⟨d1,r1,g1⟩:=array_elem FD hf 1 1 1 (by decide) (by kernel_rfl) rfl;clear h hw hf
 match cs,hl with
 | [c0,c1],_=>
   obtain⟨A0,k0,s0,f0⟩:=r0;have e0:c0=Value.slice A0 (List.length d0) k0:=jS (l:=[c0]) (m:=[Value.slice A0 (List.length d0) k0]) 0 s0;obtain⟨A1,k1,s1,f1⟩:=r1;have e1:c1=Value.slice A1 (List.length d1) k1:=jS (l:=[c1]) (m:=[Value.slice A1 (List.length d1) k1]) 0 s1;subst e0 e1;exact⟨rfl,⟨d0,d1⟩,⟨A0,k0,A1,k1,rfl,f0,f1⟩,g0,g1⟩
def agT:RT (Int×Int):=fun _ _ cs x=>cs=[.int .i64 x.1,.int .i64 x.2]
def aal(x:(Int×Int)):Prop:=(kZ .i64) x.1/\(kZ .i64) x.2
theorem P7:Opens Tryz.prog 52 2 agT aal:=fun {H enc w fuel cs x} h hw=>by
 obtain⟨hl,hf⟩:=KV Tryz.underlying52 h hw;have hl:cs.length=2:=hl.trans (by kernel_rfl);obtain⟨d0,r0,g0⟩:=array_elem (dO Tryz.underlying3) hf 0 0 1 (by decide) (by kernel_rfl) rfl;obtain⟨d1,r1,g1⟩:=array_elem (dO Tryz.underlying3) hf 1 1 1 (by decide) (by kernel_rfl) rfl;clear h hw hf
 match cs,hl with
 | [c0,c1],_=>
   have e0:c0=Value.int .i64 d0:=jS (l:=[c0]) (m:=[Value.int .i64 d0]) 0 r0;have e1:c1=Value.int .i64 d1:=jS (l:=[c1]) (m:=[Value.int .i64 d1]) 0 r1;subst e0 e1;exact⟨rfl,(d0,d1),rfl,g0,g1⟩
theorem Qa:Opens Tryz.prog 26 1 (aN 1 R8) (Ld (kZ .u8)):=sV Tryz.underlying26 (by kernel_rfl) (by kernel_rfl) (dO Tryz.underlying5)
instance:Inhabited jP:=⟨⟨default,default,default,default,default⟩⟩
def Gx1(c:jP):Prop:=(kZ .i64) c.bQ/\(kZ .i64) c.aZ/\(kZ .i64) c.aE/\(kZ .i64) c.aO/\(kZ .i64) c.bc
theorem P9:Opens Tryz.prog 43 5 Rx1 Gx1:=fun {H enc w fuel cs x} h hw=>by
 obtain⟨hl,hf⟩:=tY Tryz.underlying43 h hw;have hl:cs.length=5:=hl.trans (by kernel_rfl);refine⟨hl,?_⟩;obtain⟨d0,r0,g0⟩:=bN (dO Tryz.underlying3) hf 0 0 1 rfl (by kernel_rfl);obtain⟨d1,r1,g1⟩:=bN (dO Tryz.underlying3) hf 1 1 1 rfl (by kernel_rfl);obtain⟨d2,r2,g2⟩:=bN (dO Tryz.underlying3) hf 2 2 1 rfl (by kernel_rfl);obtain⟨d3,r3,g3⟩:=bN (dO Tryz.underlying3) hf 3 3 1 rfl (by kernel_rfl);obtain⟨d4,r4,g4⟩:=bN (dO Tryz.underlying3) hf 4 4 1 rfl (by kernel_rfl);obtain⟨c0,c1,c2,c3,c4,rfl⟩:∃c0 c1 c2 c3 c4,cs=[c0,c1,c2,c3,c4]:=by
  clear h hw hf r0 g0 r1 g1 r2 g2 r3 g3 r4 g4
  match cs,hl with
  | [c0,c1,c2,c3,c4],_=>exact⟨c0,c1,c2,c3,c4,rfl⟩
 have e0:c0=Value.int .i64 d0:=jS (l:=[c0]) (m:=[Value.int .i64 d0]) 0 r0;have e1:c1=Value.int .i64 d1:=jS (l:=[c1]) (m:=[Value.int .i64 d1]) 0 r1;have e2:c2=Value.int .i64 d2:=jS (l:=[c2]) (m:=[Value.int .i64 d2]) 0 r2;have e3:c3=Value.int .i64 d3:=jS (l:=[c3]) (m:=[Value.int .i64 d3]) 0 r3;have e4:c4=Value.int .i64 d4:=jS (l:=[c4]) (m:=[Value.int .i64 d4]) 0 r4;subst e0 e1 e2 e3 e4;exact⟨⟨d0,d1,d2,d3,d4⟩,rfl,⟨g0,g1,g2,g3,g4⟩⟩
instance:Inhabited F7:=⟨⟨default,default,default,default,default,default,default,default,default,default⟩⟩
def Gx2(c:F7):Prop:=(kZ .u8) c.bj/\(kZ .u8) c.ae/\(kZ .u8) c.N/\(kZ .u16) c.bT/\(kZ .u16) c.aY/\(kZ .i64) c.dh/\(kZ .i64) c.cZ/\(kZ .i64) c.aA/\(Ld (kZ .u8)) c.ax/\Gx1 c.ao
theorem Md:Opens Tryz.prog 106 14 IJ Gx2:=fun {H enc w fuel cs x} h hw=>by
 obtain⟨hl,hf⟩:=tY Tryz.underlying106 h hw;have hl:cs.length=14:=hl.trans (by kernel_rfl);refine⟨hl,?_⟩;obtain⟨d0,r0,g0⟩:=bN (dO Tryz.underlying5) hf 0 0 1 rfl (by kernel_rfl);obtain⟨d1,r1,g1⟩:=bN (dO Tryz.underlying5) hf 1 1 1 rfl (by kernel_rfl);obtain⟨d2,r2,g2⟩:=bN (dO Tryz.underlying5) hf 2 2 1 rfl (by kernel_rfl);obtain⟨d3,r3,g3⟩:=bN (dO Tryz.underlying41) hf 3 3 1 rfl (by kernel_rfl);obtain⟨d4,r4,g4⟩:=bN (dO Tryz.underlying41) hf 4 4 1 rfl (by kernel_rfl);obtain⟨d5,r5,g5⟩:=bN (dO Tryz.underlying3) hf 5 5 1 rfl (by kernel_rfl);obtain⟨d6,r6,g6⟩:=bN (dO Tryz.underlying3) hf 6 6 1 rfl (by kernel_rfl);obtain⟨d7,r7,g7⟩:=bN (dO Tryz.underlying3) hf 7 7 1 rfl (by kernel_rfl);obtain⟨d8,r8,g8⟩:=bN Qa hf 8 8 1 rfl (by kernel_rfl);obtain⟨d9,r9,g9⟩:=bN P9 hf 9 9 5 rfl (by kernel_rfl);obtain⟨c0,c1,c2,c3,c4,c5,c6,c7,c8,c9,c10,c11,c12,c13,rfl⟩:∃c0 c1 c2 c3 c4 c5 c6 c7 c8 c9 c10 c11 c12 c13,cs=[c0,c1,c2,c3,c4,c5,c6,c7,c8,c9,c10,c11,c12,c13]:=by
  clear h hw hf r0 g0 r1 g1 r2 g2 r3 g3 r4 g4 r5 g5 r6 g6 r7 g7 r8 g8 r9 g9
  match cs,hl with
  | [c0,c1,c2,c3,c4,c5,c6,c7,c8,c9,c10,c11,c12,c13],_=>exact⟨c0,c1,c2,c3,c4,c5,c6,c7,c8,c9,c10,c11,c12,c13,rfl⟩
 have e0:c0=Value.int .u8 d0:=jS (l:=[c0]) (m:=[Value.int .u8 d0]) 0 r0;have e1:c1=Value.int .u8 d1:=jS (l:=[c1]) (m:=[Value.int .u8 d1]) 0 r1;have e2:c2=Value.int .u8 d2:=jS (l:=[c2]) (m:=[Value.int .u8 d2]) 0 r2;have e3:c3=Value.int .u16 d3:=jS (l:=[c3]) (m:=[Value.int .u16 d3]) 0 r3;have e4:c4=Value.int .u16 d4:=jS (l:=[c4]) (m:=[Value.int .u16 d4]) 0 r4;have e5:c5=Value.int .i64 d5:=jS (l:=[c5]) (m:=[Value.int .i64 d5]) 0 r5;have e6:c6=Value.int .i64 d6:=jS (l:=[c6]) (m:=[Value.int .i64 d6]) 0 r6;have e7:c7=Value.int .i64 d7:=jS (l:=[c7]) (m:=[Value.int .i64 d7]) 0 r7;obtain⟨adp,acg,r8,f8_0⟩:=r8;have e8:c8=Value.slice adp (List.length d8) acg:=jS (l:=[c8]) (m:=[Value.slice adp (List.length d8) acg]) 0 r8;have e9:c9=Value.int .i64 d9.bQ:=jS (l:=[c9,c10,c11,c12,c13]) (m:=[Value.int .i64 d9.bQ,Value.int .i64 d9.aZ,Value.int .i64 d9.aE,Value.int .i64 d9.aO,Value.int .i64 d9.bc]) 0 r9;have e10:c10=Value.int .i64 d9.aZ:=jS (l:=[c9,c10,c11,c12,c13]) (m:=[Value.int .i64 d9.bQ,Value.int .i64 d9.aZ,Value.int .i64 d9.aE,Value.int .i64 d9.aO,Value.int .i64 d9.bc]) 1 r9;have e11:c11=Value.int .i64 d9.aE:=jS (l:=[c9,c10,c11,c12,c13]) (m:=[Value.int .i64 d9.bQ,Value.int .i64 d9.aZ,Value.int .i64 d9.aE,Value.int .i64 d9.aO,Value.int .i64 d9.bc]) 2 r9;have e12:c12=Value.int .i64 d9.aO:=jS (l:=[c9,c10,c11,c12,c13]) (m:=[Value.int .i64 d9.bQ,Value.int .i64 d9.aZ,Value.int .i64 d9.aE,Value.int .i64 d9.aO,Value.int .i64 d9.bc]) 3 r9;have e13:c13=Value.int .i64 d9.bc:=jS (l:=[c9,c10,c11,c12,c13]) (m:=[Value.int .i64 d9.bQ,Value.int .i64 d9.aZ,Value.int .i64 d9.aE,Value.int .i64 d9.aO,Value.int .i64 d9.bc]) 4 r9;subst e0 e1 e2 e3 e4 e5 e6 e7 e8 e9 e10 e11 e12 e13;exact⟨⟨d0,d1,d2,d3,d4,d5,d6,d7,d8,d9⟩,⟨adp,acg,rfl,f8_0⟩,⟨g0,g1,g2,g3,g4,g5,g6,g7,g8,g9⟩⟩
theorem P6:Opens Tryz.prog 53 1 (aN 14 IJ) (Ld Gx2):=sV Tryz.underlying53 (by kernel_rfl) (by kernel_rfl) Md
instance:Inhabited vH:=⟨⟨default,default,default⟩⟩
def Gx3(c:vH):Prop:=aam c.ak/\aal c.bL/\(Ld Gx2) c.eZ
theorem P5:Opens Tryz.prog 55 5 Rx3 Gx3:=fun {H enc w fuel cs x} h hw=>by
 obtain⟨hl,hf⟩:=tY Tryz.underlying55 h hw;have hl:cs.length=5:=hl.trans (by kernel_rfl);refine⟨hl,?_⟩;obtain⟨d0,r0,g0⟩:=bN P8 hf 0 0 2 rfl (by kernel_rfl);obtain⟨d1,r1,g1⟩:=bN P7 hf 1 2 2 rfl (by kernel_rfl);obtain⟨d2,r2,g2⟩:=bN P6 hf 2 4 1 rfl (by kernel_rfl);obtain⟨c0,c1,c2,c3,c4,rfl⟩:∃c0 c1 c2 c3 c4,cs=[c0,c1,c2,c3,c4]:=by
  clear h hw hf r0 g0 r1 g1 r2 g2
  match cs,hl with
  | [c0,c1,c2,c3,c4],_=>exact⟨c0,c1,c2,c3,c4,rfl⟩
 obtain⟨Rh,Qm,Rf,Ql,r0,acS,acR⟩:=r0;have e0:c0=Value.slice Rh (List.length d0.1) Qm:=jS (l:=[c0,c1]) (m:=[Value.slice Rh (List.length d0.1) Qm,Value.slice Rf (List.length d0.2) Ql]) 0 r0;have e1:c1=Value.slice Rf (List.length d0.2) Ql:=jS (l:=[c0,c1]) (m:=[Value.slice Rh (List.length d0.1) Qm,Value.slice Rf (List.length d0.2) Ql]) 1 r0;have e2:c2=Value.int .i64 d1.1:=jS (l:=[c2,c3]) (m:=[Value.int .i64 d1.1,Value.int .i64 d1.2]) 0 r1;have e3:c3=Value.int .i64 d1.2:=jS (l:=[c2,c3]) (m:=[Value.int .i64 d1.1,Value.int .i64 d1.2]) 1 r1;obtain⟨adq,ach,r2,f2_0⟩:=r2;have e4:c4=Value.slice adq (List.length d2) ach:=jS (l:=[c4]) (m:=[Value.slice adq (List.length d2) ach]) 0 r2;subst e0 e1 e2 e3 e4;exact⟨⟨d0,d1,d2⟩,⟨Rh,Qm,Rf,Ql,adq,ach,rfl,acS,acR,f2_0⟩,⟨g0,g1,g2⟩⟩
end V
end Go.Proofs.YtbgfhaahhdnogaaGreat
