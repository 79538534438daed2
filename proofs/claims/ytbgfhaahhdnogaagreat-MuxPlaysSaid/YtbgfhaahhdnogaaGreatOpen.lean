/- Each argument type opened. -/
import Derived.Test.YtbgfhaahhdnogaaGreatArrO
namespace Go.Proofs.YtbgfhaahhdnogaaGreat
namespace V
open Go.ChangeShapes Go.WideShapes Go.ChangeAt Go.RowKit Go.Deep
theorem own:ownKnob Tryz.prog.godebug=none:=by kernel_rfl
theorem laidOut:laidOutB Tryz.prog=true:=by kernel_rfl
instance:Inhabited dX:=⟨⟨default,default,default,default,default⟩⟩
def Gx0(c:dX):Prop:=(iV .u16) c.bg∧(iV .i64) c.bA∧(iV .i64) c.bC∧(iV .i64) c.au∧(iV .i64) c.Level
theorem Iq:Opens Tryz.prog 83 5 dn Gx0:=fun {H enc w fuel cs x} h hw=>by
 obtain⟨hl,hf⟩:=lC Tryz.underlying83 h hw
 have hl:cs.length=5:=hl.trans (by kernel_rfl)
 refine⟨hl,?_⟩
 obtain⟨d0,r0,g0⟩:=bq (dA Tryz.underlying41) hf 0 0 1 rfl (by kernel_rfl)
 obtain⟨d1,r1,g1⟩:=bq (dA Tryz.underlying3) hf 1 1 1 rfl (by kernel_rfl)
 obtain⟨d2,r2,g2⟩:=bq (dA Tryz.underlying3) hf 2 2 1 rfl (by kernel_rfl)
 obtain⟨d3,r3,g3⟩:=bq (dA Tryz.underlying3) hf 3 3 1 rfl (by kernel_rfl)
 obtain⟨d4,r4,g4⟩:=bq (dA Tryz.underlying3) hf 4 4 1 rfl (by kernel_rfl)
 obtain⟨c0,c1,c2,c3,c4,rfl⟩:∃c0 c1 c2 c3 c4,cs=[c0,c1,c2,c3,c4]:=by
  clear h hw hf r0 g0 r1 g1 r2 g2 r3 g3 r4 g4
  match cs,hl with
  | [c0,c1,c2,c3,c4],_=>exact⟨c0,c1,c2,c3,c4,rfl⟩
 have e0:c0=Value.int .u16 d0:=iK (l:=[c0]) (m:=[Value.int .u16 d0]) 0 r0
 have e1:c1=Value.int .i64 d1:=iK (l:=[c1]) (m:=[Value.int .i64 d1]) 0 r1
 have e2:c2=Value.int .i64 d2:=iK (l:=[c2]) (m:=[Value.int .i64 d2]) 0 r2
 have e3:c3=Value.int .i64 d3:=iK (l:=[c3]) (m:=[Value.int .i64 d3]) 0 r3
 have e4:c4=Value.int .i64 d4:=iK (l:=[c4]) (m:=[Value.int .i64 d4]) 0 r4
 subst e0 e1 e2 e3 e4
 exact⟨⟨d0,d1,d2,d3,d4⟩,rfl,⟨g0,g1,g2,g3,g4⟩⟩
theorem IB:Opens Tryz.prog 22 1 (aZ 5 dn) (D6 Gx0):=nE Tryz.underlying22 (by kernel_rfl) (by kernel_rfl) Iq
theorem zB:Opens Tryz.prog 26 1 (aZ 1 R8) (D6 (iV .u8)):=nE Tryz.underlying26 (by kernel_rfl) (by kernel_rfl) (dA Tryz.underlying5)
instance:Inhabited fD:=⟨⟨default,default,default,default,default⟩⟩
def Gx1(c:fD):Prop:=(iV .i64) c.aU∧(iV .i64) c.aL∧(iV .i64) c.Interval∧(iV .i64) c.aV∧(iV .i64) c.Timeout
theorem Iw:Opens Tryz.prog 43 5 YS Gx1:=fun {H enc w fuel cs x} h hw=>by
 obtain⟨hl,hf⟩:=lC Tryz.underlying43 h hw
 have hl:cs.length=5:=hl.trans (by kernel_rfl)
 refine⟨hl,?_⟩
 obtain⟨d0,r0,g0⟩:=bq (dA Tryz.underlying3) hf 0 0 1 rfl (by kernel_rfl)
 obtain⟨d1,r1,g1⟩:=bq (dA Tryz.underlying3) hf 1 1 1 rfl (by kernel_rfl)
 obtain⟨d2,r2,g2⟩:=bq (dA Tryz.underlying3) hf 2 2 1 rfl (by kernel_rfl)
 obtain⟨d3,r3,g3⟩:=bq (dA Tryz.underlying3) hf 3 3 1 rfl (by kernel_rfl)
 obtain⟨d4,r4,g4⟩:=bq (dA Tryz.underlying3) hf 4 4 1 rfl (by kernel_rfl)
 obtain⟨c0,c1,c2,c3,c4,rfl⟩:∃c0 c1 c2 c3 c4,cs=[c0,c1,c2,c3,c4]:=by
  clear h hw hf r0 g0 r1 g1 r2 g2 r3 g3 r4 g4
  match cs,hl with
  | [c0,c1,c2,c3,c4],_=>exact⟨c0,c1,c2,c3,c4,rfl⟩
 have e0:c0=Value.int .i64 d0:=iK (l:=[c0]) (m:=[Value.int .i64 d0]) 0 r0
 have e1:c1=Value.int .i64 d1:=iK (l:=[c1]) (m:=[Value.int .i64 d1]) 0 r1
 have e2:c2=Value.int .i64 d2:=iK (l:=[c2]) (m:=[Value.int .i64 d2]) 0 r2
 have e3:c3=Value.int .i64 d3:=iK (l:=[c3]) (m:=[Value.int .i64 d3]) 0 r3
 have e4:c4=Value.int .i64 d4:=iK (l:=[c4]) (m:=[Value.int .i64 d4]) 0 r4
 subst e0 e1 e2 e3 e4
 exact⟨⟨d0,d1,d2,d3,d4⟩,rfl,⟨g0,g1,g2,g3,g4⟩⟩
instance:Inhabited jL:=⟨⟨default,default⟩⟩
def Gx2(c:jL):Prop:=(iV .i64) c.bF∧(D6 (iV .u8)) c.Payload
theorem Iu:Opens Tryz.prog 45 2 Rx2 Gx2:=fun {H enc w fuel cs x} h hw=>by
 obtain⟨hl,hf⟩:=lC Tryz.underlying45 h hw
 have hl:cs.length=2:=hl.trans (by kernel_rfl)
 refine⟨hl,?_⟩
 obtain⟨d0,r0,g0⟩:=bq (dA Tryz.underlying3) hf 0 0 1 rfl (by kernel_rfl)
 obtain⟨d1,r1,g1⟩:=bq zB hf 1 1 1 rfl (by kernel_rfl)
 obtain⟨c0,c1,rfl⟩:∃c0 c1,cs=[c0,c1]:=by
  clear h hw hf r0 g0 r1 g1
  match cs,hl with
  | [c0,c1],_=>exact⟨c0,c1,rfl⟩
 have e0:c0=Value.int .i64 d0:=iK (l:=[c0]) (m:=[Value.int .i64 d0]) 0 r0
 obtain⟨F5,FC,r1,TU⟩:=r1
 have e1:c1=Value.slice F5 (List.length d1) FC:=iK (l:=[c1]) (m:=[Value.slice F5 (List.length d1) FC]) 0 r1
 subst e0 e1
 exact⟨⟨d0,d1⟩,⟨F5,FC,rfl,TU⟩,⟨g0,g1⟩⟩
instance:Inhabited DW:=⟨⟨default,default,default,default,default,default,default,default,default,default,default,default⟩⟩
def Gx3(c:DW):Prop:=(iV .u8) c.Call∧(iV .u16) c.bg∧(iV .u16) c.cO∧(iV .i64) c.bA∧(iV .i64) c.bC∧(iV .i64) c.au∧(iV .i64) c.ID∧(iV .i64) c.Result∧(iV .i64) c.Level∧(D6 (iV .u8)) c.Bytes∧Gx1 c.Update∧Gx2 c.dB
theorem Ir:Opens Tryz.prog 47 17 EC Gx3:=fun {H enc w fuel cs x} h hw=>by
 obtain⟨hl,hf⟩:=lC Tryz.underlying47 h hw
 have hl:cs.length=17:=hl.trans (by kernel_rfl)
 refine⟨hl,?_⟩
 obtain⟨d0,r0,g0⟩:=bq (dA Tryz.underlying5) hf 0 0 1 rfl (by kernel_rfl)
 obtain⟨d1,r1,g1⟩:=bq (dA Tryz.underlying41) hf 1 1 1 rfl (by kernel_rfl)
 obtain⟨d2,r2,g2⟩:=bq (dA Tryz.underlying41) hf 2 2 1 rfl (by kernel_rfl)
 obtain⟨d3,r3,g3⟩:=bq (dA Tryz.underlying3) hf 3 3 1 rfl (by kernel_rfl)
 obtain⟨d4,r4,g4⟩:=bq (dA Tryz.underlying3) hf 4 4 1 rfl (by kernel_rfl)
 obtain⟨d5,r5,g5⟩:=bq (dA Tryz.underlying3) hf 5 5 1 rfl (by kernel_rfl)
 obtain⟨d6,r6,g6⟩:=bq (dA Tryz.underlying3) hf 6 6 1 rfl (by kernel_rfl)
 obtain⟨d7,r7,g7⟩:=bq (dA Tryz.underlying3) hf 7 7 1 rfl (by kernel_rfl)
 obtain⟨d8,r8,g8⟩:=bq (dA Tryz.underlying3) hf 8 8 1 rfl (by kernel_rfl)
 obtain⟨d9,r9,g9⟩:=bq zB hf 9 9 1 rfl (by kernel_rfl)
 obtain⟨pQ,UE,g10⟩:=bq Iw hf 10 10 5 rfl (by kernel_rfl)
 obtain⟨Ue,VQ,g11⟩:=bq Iu hf 11 15 2 rfl (by kernel_rfl)
 obtain⟨c0,c1,c2,c3,c4,c5,c6,c7,c8,c9,c10,c11,c12,c13,c14,c15,c16,rfl⟩:∃c0 c1 c2 c3 c4 c5 c6 c7 c8 c9 c10 c11 c12 c13 c14 c15 c16,cs=[c0,c1,c2,c3,c4,c5,c6,c7,c8,c9,c10,c11,c12,c13,c14,c15,c16]:=by
  clear h hw hf r0 g0 r1 g1 r2 g2 r3 g3 r4 g4 r5 g5 r6 g6 r7 g7 r8 g8 r9 g9 UE g10 VQ g11
  match cs,hl with
  | [c0,c1,c2,c3,c4,c5,c6,c7,c8,c9,c10,c11,c12,c13,c14,c15,c16],_=>exact⟨c0,c1,c2,c3,c4,c5,c6,c7,c8,c9,c10,c11,c12,c13,c14,c15,c16,rfl⟩
 have e0:c0=Value.int .u8 d0:=iK (l:=[c0]) (m:=[Value.int .u8 d0]) 0 r0
 have e1:c1=Value.int .u16 d1:=iK (l:=[c1]) (m:=[Value.int .u16 d1]) 0 r1
 have e2:c2=Value.int .u16 d2:=iK (l:=[c2]) (m:=[Value.int .u16 d2]) 0 r2
 have e3:c3=Value.int .i64 d3:=iK (l:=[c3]) (m:=[Value.int .i64 d3]) 0 r3
 have e4:c4=Value.int .i64 d4:=iK (l:=[c4]) (m:=[Value.int .i64 d4]) 0 r4
 have e5:c5=Value.int .i64 d5:=iK (l:=[c5]) (m:=[Value.int .i64 d5]) 0 r5
 have e6:c6=Value.int .i64 d6:=iK (l:=[c6]) (m:=[Value.int .i64 d6]) 0 r6
 have e7:c7=Value.int .i64 d7:=iK (l:=[c7]) (m:=[Value.int .i64 d7]) 0 r7
 have e8:c8=Value.int .i64 d8:=iK (l:=[c8]) (m:=[Value.int .i64 d8]) 0 r8
 obtain⟨Uy,Tp,r9,f9_0⟩:=r9
 have e9:c9=Value.slice Uy (List.length d9) Tp:=iK (l:=[c9]) (m:=[Value.slice Uy (List.length d9) Tp]) 0 r9
 have e10:c10=Value.int .i64 pQ.aU:=iK (l:=[c10,c11,c12,c13,c14]) (m:=[Value.int .i64 pQ.aU,Value.int .i64 pQ.aL,Value.int .i64 pQ.Interval,Value.int .i64 pQ.aV,Value.int .i64 pQ.Timeout]) 0 UE
 have e11:c11=Value.int .i64 pQ.aL:=iK (l:=[c10,c11,c12,c13,c14]) (m:=[Value.int .i64 pQ.aU,Value.int .i64 pQ.aL,Value.int .i64 pQ.Interval,Value.int .i64 pQ.aV,Value.int .i64 pQ.Timeout]) 1 UE
 have e12:c12=Value.int .i64 pQ.Interval:=iK (l:=[c10,c11,c12,c13,c14]) (m:=[Value.int .i64 pQ.aU,Value.int .i64 pQ.aL,Value.int .i64 pQ.Interval,Value.int .i64 pQ.aV,Value.int .i64 pQ.Timeout]) 2 UE
 have e13:c13=Value.int .i64 pQ.aV:=iK (l:=[c10,c11,c12,c13,c14]) (m:=[Value.int .i64 pQ.aU,Value.int .i64 pQ.aL,Value.int .i64 pQ.Interval,Value.int .i64 pQ.aV,Value.int .i64 pQ.Timeout]) 3 UE
 have e14:c14=Value.int .i64 pQ.Timeout:=iK (l:=[c10,c11,c12,c13,c14]) (m:=[Value.int .i64 pQ.aU,Value.int .i64 pQ.aL,Value.int .i64 pQ.Interval,Value.int .i64 pQ.aV,Value.int .i64 pQ.Timeout]) 4 UE
 obtain⟨G6,Gy,VQ,Yl⟩:=VQ
 have e15:c15=Value.int .i64 Ue.bF:=iK (l:=[c15,c16]) (m:=[Value.int .i64 Ue.bF,Value.slice G6 (List.length Ue.Payload) Gy]) 0 VQ
 have e16:c16=Value.slice G6 (List.length Ue.Payload) Gy:=iK (l:=[c15,c16]) (m:=[Value.int .i64 Ue.bF,Value.slice G6 (List.length Ue.Payload) Gy]) 1 VQ
 subst e0 e1 e2 e3 e4 e5 e6 e7 e8 e9 e10 e11 e12 e13 e14 e15 e16
 exact⟨⟨d0,d1,d2,d3,d4,d5,d6,d7,d8,d9,pQ,Ue⟩,⟨Uy,Tp,G6,Gy,rfl,f9_0,Yl⟩,⟨g0,g1,g2,g3,g4,g5,g6,g7,g8,g9,g10,g11⟩⟩
theorem Iz:Opens Tryz.prog 38 1 (aZ 17 EC) (D6 Gx3):=nE Tryz.underlying38 (by kernel_rfl) (by kernel_rfl) Ir
instance:Inhabited DV:=⟨⟨default,default,default⟩⟩
def Gx4(c:DV):Prop:=(iV .i64) c.eT∧(D6 Gx0) c.ay∧(D6 Gx3) c.Steps
theorem Iy:Opens Tryz.prog 40 3 Rx4 Gx4:=fun {H enc w fuel cs x} h hw=>by
 obtain⟨hl,hf⟩:=lC Tryz.underlying40 h hw
 have hl:cs.length=3:=hl.trans (by kernel_rfl)
 refine⟨hl,?_⟩
 obtain⟨d0,r0,g0⟩:=bq (dA Tryz.underlying3) hf 0 0 1 rfl (by kernel_rfl)
 obtain⟨d1,r1,g1⟩:=bq IB hf 1 1 1 rfl (by kernel_rfl)
 obtain⟨d2,r2,g2⟩:=bq Iz hf 2 2 1 rfl (by kernel_rfl)
 obtain⟨c0,c1,c2,rfl⟩:∃c0 c1 c2,cs=[c0,c1,c2]:=by
  clear h hw hf r0 g0 r1 g1 r2 g2
  match cs,hl with
  | [c0,c1,c2],_=>exact⟨c0,c1,c2,rfl⟩
 have e0:c0=Value.int .i64 d0:=iK (l:=[c0]) (m:=[Value.int .i64 d0]) 0 r0
 obtain⟨F5,FC,r1,TU⟩:=r1
 have e1:c1=Value.slice F5 (List.length d1) FC:=iK (l:=[c1]) (m:=[Value.slice F5 (List.length d1) FC]) 0 r1
 obtain⟨Uz,Tq,r2,f2_0⟩:=r2
 have e2:c2=Value.slice Uz (List.length d2) Tq:=iK (l:=[c2]) (m:=[Value.slice Uz (List.length d2) Tq]) 0 r2
 subst e0 e1 e2
 exact⟨⟨d0,d1,d2⟩,⟨F5,FC,Uz,Tq,rfl,TU,f2_0⟩,⟨g0,g1,g2⟩⟩
end V
end Go.Proofs.YtbgfhaahhdnogaaGreat
