/- Each argument type opened. -/
import Derived.Test.YtbgfhaahhdnogaaGreatArrO
namespace Go.Proofs.YtbgfhaahhdnogaaGreat
namespace V
open Go.ChangeShapes Go.WideShapes Go.ChangeAt Go.RowKit Go.Deep
theorem own:ownKnob Tryz.prog.godebug=none:=by kernel_rfl
theorem laidOut:laidOutB Tryz.prog=true:=by kernel_rfl
instance:Inhabited eZ:=⟨⟨default,default,default,default,default⟩⟩
def Gx0(c:eZ):Prop:=(jZ .u16) c.bU∧(jZ .i64) c.bZ∧(jZ .i64) c.cu∧(jZ .i64) c.aA∧(jZ .i64) c.Level
theorem Nu:Opens Tryz.prog 83 5 dh Gx0:=fun {H enc w fuel cs x} h hw=>by
 obtain⟨hl,hf⟩:=rM Tryz.underlying83 h hw
 have hl:cs.length=5:=hl.trans (by kernel_rfl)
 refine⟨hl,?_⟩
 obtain⟨d0,r0,g0⟩:=bG (dF Tryz.underlying41) hf 0 0 1 rfl (by kernel_rfl)
 obtain⟨d1,r1,g1⟩:=bG (dF Tryz.underlying3) hf 1 1 1 rfl (by kernel_rfl)
 obtain⟨d2,r2,g2⟩:=bG (dF Tryz.underlying3) hf 2 2 1 rfl (by kernel_rfl)
 obtain⟨d3,r3,g3⟩:=bG (dF Tryz.underlying3) hf 3 3 1 rfl (by kernel_rfl)
 obtain⟨d4,r4,g4⟩:=bG (dF Tryz.underlying3) hf 4 4 1 rfl (by kernel_rfl)
 obtain⟨c0,c1,c2,c3,c4,rfl⟩:∃c0 c1 c2 c3 c4,cs=[c0,c1,c2,c3,c4]:=by
  clear h hw hf r0 g0 r1 g1 r2 g2 r3 g3 r4 g4
  match cs,hl with
  | [c0,c1,c2,c3,c4],_=>exact⟨c0,c1,c2,c3,c4,rfl⟩
 have e0:c0=Value.int .u16 d0:=ji (l:=[c0]) (m:=[Value.int .u16 d0]) 0 r0
 have e1:c1=Value.int .i64 d1:=ji (l:=[c1]) (m:=[Value.int .i64 d1]) 0 r1
 have e2:c2=Value.int .i64 d2:=ji (l:=[c2]) (m:=[Value.int .i64 d2]) 0 r2
 have e3:c3=Value.int .i64 d3:=ji (l:=[c3]) (m:=[Value.int .i64 d3]) 0 r3
 have e4:c4=Value.int .i64 d4:=ji (l:=[c4]) (m:=[Value.int .i64 d4]) 0 r4
 subst e0 e1 e2 e3 e4
 exact⟨⟨d0,d1,d2,d3,d4⟩,rfl,⟨g0,g1,g2,g3,g4⟩⟩
theorem Dp:Opens Tryz.prog 22 1 (aJ 5 dh) (Jr Gx0):=qW Tryz.underlying22 (by kernel_rfl) (by kernel_rfl) Nu
def adH:RT ((List eZ)×(List eZ)):=fun U w cs x=>∃(A0:Option Addr) (k0:Nat) (A1:Option Addr) (k1:Nat),cs=[.slice A0 (List.length x.1) k0,.slice A1 (List.length x.2) k1]∧Sl 5 dh U w A0 k0 x.1∧Sl 5 dh U w A1 k1 x.2
def Xr(x:((List eZ)×(List eZ))):Prop:=(Jr Gx0) x.1∧(Jr Gx0) x.2
theorem Nz:Opens Tryz.prog 51 2 adH Xr:=fun {H enc w fuel cs x} h hw=>by
 obtain⟨hl,hf⟩:=Je Tryz.underlying51 h hw
 have hl:cs.length=2:=hl.trans (by kernel_rfl)
 obtain⟨d0,r0,g0⟩:=array_elem Dp hf 0 0 1 (by decide) (by kernel_rfl) rfl
 obtain⟨d1,r1,g1⟩:=array_elem Dp hf 1 1 1 (by decide) (by kernel_rfl) rfl
 clear h hw hf
 match cs,hl with
 | [c0,c1],_=>
   obtain⟨A0,k0,s0,f0⟩:=r0
   have e0:c0=Value.slice A0 (List.length d0) k0:=ji (l:=[c0]) (m:=[Value.slice A0 (List.length d0) k0]) 0 s0
   obtain⟨A1,k1,s1,f1⟩:=r1
   have e1:c1=Value.slice A1 (List.length d1) k1:=ji (l:=[c1]) (m:=[Value.slice A1 (List.length d1) k1]) 0 s1
   subst e0 e1
   exact⟨rfl,⟨d0,d1⟩,⟨A0,k0,A1,k1,rfl,f0,f1⟩,g0,g1⟩
def adG:RT (Int×Int):=fun _ _ cs x=>cs=[.int .i64 x.1,.int .i64 x.2]
def Xq(x:(Int×Int)):Prop:=(jZ .i64) x.1∧(jZ .i64) x.2
theorem Ny:Opens Tryz.prog 52 2 adG Xq:=fun {H enc w fuel cs x} h hw=>by
 obtain⟨hl,hf⟩:=Je Tryz.underlying52 h hw
 have hl:cs.length=2:=hl.trans (by kernel_rfl)
 obtain⟨d0,r0,g0⟩:=array_elem (dF Tryz.underlying3) hf 0 0 1 (by decide) (by kernel_rfl) rfl
 obtain⟨d1,r1,g1⟩:=array_elem (dF Tryz.underlying3) hf 1 1 1 (by decide) (by kernel_rfl) rfl
 clear h hw hf
 match cs,hl with
 | [c0,c1],_=>
   have e0:c0=Value.int .i64 d0:=ji (l:=[c0]) (m:=[Value.int .i64 d0]) 0 r0
   have e1:c1=Value.int .i64 d1:=ji (l:=[c1]) (m:=[Value.int .i64 d1]) 0 r1
   subst e0 e1
   exact⟨rfl,(d0,d1),rfl,g0,g1⟩
theorem NC:Opens Tryz.prog 26 1 (aJ 1 R8) (Jr (jZ .u8)):=qW Tryz.underlying26 (by kernel_rfl) (by kernel_rfl) (dF Tryz.underlying5)
instance:Inhabited jo:=⟨⟨default,default,default,default,default⟩⟩
def Gx1(c:jo):Prop:=(jZ .i64) c.bL∧(jZ .i64) c.aX∧(jZ .i64) c.Interval∧(jZ .i64) c.aO∧(jZ .i64) c.Timeout
theorem NA:Opens Tryz.prog 43 5 Rx1 Gx1:=fun {H enc w fuel cs x} h hw=>by
 obtain⟨hl,hf⟩:=rM Tryz.underlying43 h hw
 have hl:cs.length=5:=hl.trans (by kernel_rfl)
 refine⟨hl,?_⟩
 obtain⟨d0,r0,g0⟩:=bG (dF Tryz.underlying3) hf 0 0 1 rfl (by kernel_rfl)
 obtain⟨d1,r1,g1⟩:=bG (dF Tryz.underlying3) hf 1 1 1 rfl (by kernel_rfl)
 obtain⟨d2,r2,g2⟩:=bG (dF Tryz.underlying3) hf 2 2 1 rfl (by kernel_rfl)
 obtain⟨d3,r3,g3⟩:=bG (dF Tryz.underlying3) hf 3 3 1 rfl (by kernel_rfl)
 obtain⟨d4,r4,g4⟩:=bG (dF Tryz.underlying3) hf 4 4 1 rfl (by kernel_rfl)
 obtain⟨c0,c1,c2,c3,c4,rfl⟩:∃c0 c1 c2 c3 c4,cs=[c0,c1,c2,c3,c4]:=by
  clear h hw hf r0 g0 r1 g1 r2 g2 r3 g3 r4 g4
  match cs,hl with
  | [c0,c1,c2,c3,c4],_=>exact⟨c0,c1,c2,c3,c4,rfl⟩
 have e0:c0=Value.int .i64 d0:=ji (l:=[c0]) (m:=[Value.int .i64 d0]) 0 r0
 have e1:c1=Value.int .i64 d1:=ji (l:=[c1]) (m:=[Value.int .i64 d1]) 0 r1
 have e2:c2=Value.int .i64 d2:=ji (l:=[c2]) (m:=[Value.int .i64 d2]) 0 r2
 have e3:c3=Value.int .i64 d3:=ji (l:=[c3]) (m:=[Value.int .i64 d3]) 0 r3
 have e4:c4=Value.int .i64 d4:=ji (l:=[c4]) (m:=[Value.int .i64 d4]) 0 r4
 subst e0 e1 e2 e3 e4
 exact⟨⟨d0,d1,d2,d3,d4⟩,rfl,⟨g0,g1,g2,g3,g4⟩⟩
instance:Inhabited D5:=⟨⟨default,default,default,default,default,default,default,default,default,default⟩⟩
def Gx2(c:D5):Prop:=(jZ .u8) c.Side∧(jZ .u8) c.Kind∧(jZ .u8) c.N∧(jZ .u16) c.bU∧(jZ .u16) c.aU∧(jZ .i64) c.bZ∧(jZ .i64) c.cu∧(jZ .i64) c.aA∧(Jr (jZ .u8)) c.Bytes∧Gx1 c.Update
theorem J2:Opens Tryz.prog 106 14 FX Gx2:=fun {H enc w fuel cs x} h hw=>by
 obtain⟨hl,hf⟩:=rM Tryz.underlying106 h hw
 have hl:cs.length=14:=hl.trans (by kernel_rfl)
 refine⟨hl,?_⟩
 obtain⟨d0,r0,g0⟩:=bG (dF Tryz.underlying5) hf 0 0 1 rfl (by kernel_rfl)
 obtain⟨d1,r1,g1⟩:=bG (dF Tryz.underlying5) hf 1 1 1 rfl (by kernel_rfl)
 obtain⟨d2,r2,g2⟩:=bG (dF Tryz.underlying5) hf 2 2 1 rfl (by kernel_rfl)
 obtain⟨d3,r3,g3⟩:=bG (dF Tryz.underlying41) hf 3 3 1 rfl (by kernel_rfl)
 obtain⟨d4,r4,g4⟩:=bG (dF Tryz.underlying41) hf 4 4 1 rfl (by kernel_rfl)
 obtain⟨d5,r5,g5⟩:=bG (dF Tryz.underlying3) hf 5 5 1 rfl (by kernel_rfl)
 obtain⟨d6,r6,g6⟩:=bG (dF Tryz.underlying3) hf 6 6 1 rfl (by kernel_rfl)
 obtain⟨d7,r7,g7⟩:=bG (dF Tryz.underlying3) hf 7 7 1 rfl (by kernel_rfl)
 obtain⟨d8,r8,g8⟩:=bG NC hf 8 8 1 rfl (by kernel_rfl)
 obtain⟨d9,r9,g9⟩:=bG NA hf 9 9 5 rfl (by kernel_rfl)
 obtain⟨c0,c1,c2,c3,c4,c5,c6,c7,c8,c9,c10,c11,c12,c13,rfl⟩:∃c0 c1 c2 c3 c4 c5 c6 c7 c8 c9 c10 c11 c12 c13,cs=[c0,c1,c2,c3,c4,c5,c6,c7,c8,c9,c10,c11,c12,c13]:=by
  clear h hw hf r0 g0 r1 g1 r2 g2 r3 g3 r4 g4 r5 g5 r6 g6 r7 g7 r8 g8 r9 g9
  match cs,hl with
  | [c0,c1,c2,c3,c4,c5,c6,c7,c8,c9,c10,c11,c12,c13],_=>exact⟨c0,c1,c2,c3,c4,c5,c6,c7,c8,c9,c10,c11,c12,c13,rfl⟩
 have e0:c0=Value.int .u8 d0:=ji (l:=[c0]) (m:=[Value.int .u8 d0]) 0 r0
 have e1:c1=Value.int .u8 d1:=ji (l:=[c1]) (m:=[Value.int .u8 d1]) 0 r1
 have e2:c2=Value.int .u8 d2:=ji (l:=[c2]) (m:=[Value.int .u8 d2]) 0 r2
 have e3:c3=Value.int .u16 d3:=ji (l:=[c3]) (m:=[Value.int .u16 d3]) 0 r3
 have e4:c4=Value.int .u16 d4:=ji (l:=[c4]) (m:=[Value.int .u16 d4]) 0 r4
 have e5:c5=Value.int .i64 d5:=ji (l:=[c5]) (m:=[Value.int .i64 d5]) 0 r5
 have e6:c6=Value.int .i64 d6:=ji (l:=[c6]) (m:=[Value.int .i64 d6]) 0 r6
 have e7:c7=Value.int .i64 d7:=ji (l:=[c7]) (m:=[Value.int .i64 d7]) 0 r7
 obtain⟨aam,Zk,r8,f8_0⟩:=r8
 have e8:c8=Value.slice aam (List.length d8) Zk:=ji (l:=[c8]) (m:=[Value.slice aam (List.length d8) Zk]) 0 r8
 have e9:c9=Value.int .i64 d9.bL:=ji (l:=[c9,c10,c11,c12,c13]) (m:=[Value.int .i64 d9.bL,Value.int .i64 d9.aX,Value.int .i64 d9.Interval,Value.int .i64 d9.aO,Value.int .i64 d9.Timeout]) 0 r9
 have e10:c10=Value.int .i64 d9.aX:=ji (l:=[c9,c10,c11,c12,c13]) (m:=[Value.int .i64 d9.bL,Value.int .i64 d9.aX,Value.int .i64 d9.Interval,Value.int .i64 d9.aO,Value.int .i64 d9.Timeout]) 1 r9
 have e11:c11=Value.int .i64 d9.Interval:=ji (l:=[c9,c10,c11,c12,c13]) (m:=[Value.int .i64 d9.bL,Value.int .i64 d9.aX,Value.int .i64 d9.Interval,Value.int .i64 d9.aO,Value.int .i64 d9.Timeout]) 2 r9
 have e12:c12=Value.int .i64 d9.aO:=ji (l:=[c9,c10,c11,c12,c13]) (m:=[Value.int .i64 d9.bL,Value.int .i64 d9.aX,Value.int .i64 d9.Interval,Value.int .i64 d9.aO,Value.int .i64 d9.Timeout]) 3 r9
 have e13:c13=Value.int .i64 d9.Timeout:=ji (l:=[c9,c10,c11,c12,c13]) (m:=[Value.int .i64 d9.bL,Value.int .i64 d9.aX,Value.int .i64 d9.Interval,Value.int .i64 d9.aO,Value.int .i64 d9.Timeout]) 4 r9
 subst e0 e1 e2 e3 e4 e5 e6 e7 e8 e9 e10 e11 e12 e13
 exact⟨⟨d0,d1,d2,d3,d4,d5,d6,d7,d8,d9⟩,⟨aam,Zk,rfl,f8_0⟩,⟨g0,g1,g2,g3,g4,g5,g6,g7,g8,g9⟩⟩
theorem Nw:Opens Tryz.prog 53 1 (aJ 14 FX) (Jr Gx2):=qW Tryz.underlying53 (by kernel_rfl) (by kernel_rfl) J2
instance:Inhabited uq:=⟨⟨default,default,default⟩⟩
def Gx3(c:uq):Prop:=Xr c.ak∧Xq c.bH∧(Jr Gx2) c.eG
theorem Nv:Opens Tryz.prog 55 5 Rx3 Gx3:=fun {H enc w fuel cs x} h hw=>by
 obtain⟨hl,hf⟩:=rM Tryz.underlying55 h hw
 have hl:cs.length=5:=hl.trans (by kernel_rfl)
 refine⟨hl,?_⟩
 obtain⟨d0,r0,g0⟩:=bG Nz hf 0 0 2 rfl (by kernel_rfl)
 obtain⟨d1,r1,g1⟩:=bG Ny hf 1 2 2 rfl (by kernel_rfl)
 obtain⟨d2,r2,g2⟩:=bG Nw hf 2 4 1 rfl (by kernel_rfl)
 obtain⟨c0,c1,c2,c3,c4,rfl⟩:∃c0 c1 c2 c3 c4,cs=[c0,c1,c2,c3,c4]:=by
  clear h hw hf r0 g0 r1 g1 r2 g2
  match cs,hl with
  | [c0,c1,c2,c3,c4],_=>exact⟨c0,c1,c2,c3,c4,rfl⟩
 obtain⟨OE,NQ,OD,NP,r0,ZP,ZO⟩:=r0
 have e0:c0=Value.slice OE (List.length d0.1) NQ:=ji (l:=[c0,c1]) (m:=[Value.slice OE (List.length d0.1) NQ,Value.slice OD (List.length d0.2) NP]) 0 r0
 have e1:c1=Value.slice OD (List.length d0.2) NP:=ji (l:=[c0,c1]) (m:=[Value.slice OE (List.length d0.1) NQ,Value.slice OD (List.length d0.2) NP]) 1 r0
 have e2:c2=Value.int .i64 d1.1:=ji (l:=[c2,c3]) (m:=[Value.int .i64 d1.1,Value.int .i64 d1.2]) 0 r1
 have e3:c3=Value.int .i64 d1.2:=ji (l:=[c2,c3]) (m:=[Value.int .i64 d1.1,Value.int .i64 d1.2]) 1 r1
 obtain⟨aan,Zl,r2,f2_0⟩:=r2
 have e4:c4=Value.slice aan (List.length d2) Zl:=ji (l:=[c4]) (m:=[Value.slice aan (List.length d2) Zl]) 0 r2
 subst e0 e1 e2 e3 e4
 exact⟨⟨d0,d1,d2⟩,⟨OE,NQ,OD,NP,aan,Zl,rfl,ZP,ZO,f2_0⟩,⟨g0,g1,g2⟩⟩
end V
end Go.Proofs.YtbgfhaahhdnogaaGreat
