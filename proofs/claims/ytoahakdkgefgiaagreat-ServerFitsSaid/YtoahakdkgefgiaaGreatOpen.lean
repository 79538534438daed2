/- Each argument type opened. -/
import Derived.Test.YtoahakdkgefgiaaGreatArrO
namespace Go.Proofs.YtoahakdkgefgiaaGreat
namespace V
open Go.ChangeShapes Go.WideShapes Go.ChangeAt Go.RowKit Go.Deep
theorem own:ownKnob Tryz.prog.godebug=none:=by kernel_rfl
theorem laidOut:laidOutB Tryz.prog=true:=by kernel_rfl
instance:Inhabited Tx0:=⟨⟨default,default⟩⟩
def Gx0 (c:Tx0):Prop:=(GInt .u64) c.High∧(GInt .u64) c.Low
theorem opens_t43:Opens Tryz.prog 43 2 Rx0 Gx0:=fun {H enc w fuel cs x} h hw=>by
  obtain⟨hl,hf⟩:=struct_at Tryz.underlying43 h hw
  have hl:cs.length=2:=hl.trans (by kernel_rfl)
  refine ⟨hl,?_⟩
  obtain⟨d0,r0,g0⟩:=struct_field (opens_int Tryz.underlying35) hf 0 0 1 rfl (by kernel_rfl)
  obtain⟨d1,r1,g1⟩:=struct_field (opens_int Tryz.underlying35) hf 1 1 1 rfl (by kernel_rfl)
  obtain⟨c0,c1,rfl⟩:∃c0 c1,cs=[c0,c1]:=by
    clear h hw hf r0 g0 r1 g1
    match cs,hl with
    | [c0,c1],_=>exact⟨c0,c1,rfl⟩
  have e0:c0=Value.int .u64 d0:=one1 (l:=[c0]) (m:=[Value.int .u64 d0]) 0 r0
  have e1:c1=Value.int .u64 d1:=one1 (l:=[c1]) (m:=[Value.int .u64 d1]) 0 r1
  subst e0 e1
  exact⟨⟨d0,d1⟩,rfl,⟨g0,g1⟩⟩
theorem opens_t44:Opens Tryz.prog 44 1 (RSl 1 R8) (GAll (GInt .u8)):=opens_slice Tryz.underlying44 (by kernel_rfl) (by kernel_rfl) (opens_int Tryz.underlying5)
instance:Inhabited Tx1:=⟨⟨default,default,default,default⟩⟩
def Gx1 (c:Tx1):Prop:=(GInt .u16) c.Handle∧Gx0 c.fT∧(GInt .i64) c.Perms∧(GAll (GInt .u8)) c.Value
theorem opens_t56:Opens Tryz.prog 56 5 Rx1 Gx1:=fun {H enc w fuel cs x} h hw=>by
  obtain⟨hl,hf⟩:=struct_at Tryz.underlying56 h hw
  have hl:cs.length=5:=hl.trans (by kernel_rfl)
  refine ⟨hl,?_⟩
  obtain⟨d0,r0,g0⟩:=struct_field (opens_int Tryz.underlying41) hf 0 0 1 rfl (by kernel_rfl)
  obtain⟨d1,r1,g1⟩:=struct_field opens_t43 hf 1 1 2 rfl (by kernel_rfl)
  obtain⟨d2,r2,g2⟩:=struct_field (opens_int Tryz.underlying3) hf 2 3 1 rfl (by kernel_rfl)
  obtain⟨d3,r3,g3⟩:=struct_field opens_t44 hf 3 4 1 rfl (by kernel_rfl)
  obtain⟨c0,c1,c2,c3,c4,rfl⟩:∃c0 c1 c2 c3 c4,cs=[c0,c1,c2,c3,c4]:=by
    clear h hw hf r0 g0 r1 g1 r2 g2 r3 g3
    match cs,hl with
    | [c0,c1,c2,c3,c4],_=>exact⟨c0,c1,c2,c3,c4,rfl⟩
  have e0:c0=Value.int .u16 d0:=one1 (l:=[c0]) (m:=[Value.int .u16 d0]) 0 r0
  have e1:c1=Value.int .u64 d1.High:=one1 (l:=[c1,c2]) (m:=[Value.int .u64 d1.High,Value.int .u64 d1.Low]) 0 r1
  have e2:c2=Value.int .u64 d1.Low:=one1 (l:=[c1,c2]) (m:=[Value.int .u64 d1.High,Value.int .u64 d1.Low]) 1 r1
  have e3:c3=Value.int .i64 d2:=one1 (l:=[c3]) (m:=[Value.int .i64 d2]) 0 r2
  obtain⟨A3_0,k3_0,r3,f3_0⟩:=r3
  have e4:c4=Value.slice A3_0 (List.length d3) k3_0:=one1 (l:=[c4]) (m:=[Value.slice A3_0 (List.length d3) k3_0]) 0 r3
  subst e0 e1 e2 e3 e4
  exact⟨⟨d0,d1,d2,d3⟩,⟨A3_0,k3_0,rfl,f3_0⟩,⟨g0,g1,g2,g3⟩⟩
theorem opens_t22:Opens Tryz.prog 22 1 (RSl 5 Rx1) (GAll Gx1):=opens_slice Tryz.underlying22 (by kernel_rfl) (by kernel_rfl) opens_t56
instance:Inhabited Tx2:=⟨⟨default,default,default,default⟩⟩
def Gx2 (c:Tx2):Prop:=(GInt .u16) c.Handle∧(GInt .u16) c.Last∧Gx0 c.fT∧(GAll (GInt .u8)) c.Value
theorem opens_t111:Opens Tryz.prog 111 5 Rx2 Gx2:=fun {H enc w fuel cs x} h hw=>by
  obtain⟨hl,hf⟩:=struct_at Tryz.underlying111 h hw
  have hl:cs.length=5:=hl.trans (by kernel_rfl)
  refine ⟨hl,?_⟩
  obtain⟨d0,r0,g0⟩:=struct_field (opens_int Tryz.underlying41) hf 0 0 1 rfl (by kernel_rfl)
  obtain⟨d1,r1,g1⟩:=struct_field (opens_int Tryz.underlying41) hf 1 1 1 rfl (by kernel_rfl)
  obtain⟨d2,r2,g2⟩:=struct_field opens_t43 hf 2 2 2 rfl (by kernel_rfl)
  obtain⟨d3,r3,g3⟩:=struct_field opens_t44 hf 3 4 1 rfl (by kernel_rfl)
  obtain⟨c0,c1,c2,c3,c4,rfl⟩:∃c0 c1 c2 c3 c4,cs=[c0,c1,c2,c3,c4]:=by
    clear h hw hf r0 g0 r1 g1 r2 g2 r3 g3
    match cs,hl with
    | [c0,c1,c2,c3,c4],_=>exact⟨c0,c1,c2,c3,c4,rfl⟩
  have e0:c0=Value.int .u16 d0:=one1 (l:=[c0]) (m:=[Value.int .u16 d0]) 0 r0
  have e1:c1=Value.int .u16 d1:=one1 (l:=[c1]) (m:=[Value.int .u16 d1]) 0 r1
  have e2:c2=Value.int .u64 d2.High:=one1 (l:=[c2,c3]) (m:=[Value.int .u64 d2.High,Value.int .u64 d2.Low]) 0 r2
  have e3:c3=Value.int .u64 d2.Low:=one1 (l:=[c2,c3]) (m:=[Value.int .u64 d2.High,Value.int .u64 d2.Low]) 1 r2
  obtain⟨A3_0,k3_0,r3,f3_0⟩:=r3
  have e4:c4=Value.slice A3_0 (List.length d3) k3_0:=one1 (l:=[c4]) (m:=[Value.slice A3_0 (List.length d3) k3_0]) 0 r3
  subst e0 e1 e2 e3 e4
  exact⟨⟨d0,d1,d2,d3⟩,⟨A3_0,k3_0,rfl,f3_0⟩,⟨g0,g1,g2,g3⟩⟩
theorem opens_t45:Opens Tryz.prog 45 1 (RSl 5 Rx2) (GAll Gx2):=opens_slice Tryz.underlying45 (by kernel_rfl) (by kernel_rfl) opens_t111
instance:Inhabited Tx3:=⟨⟨default,default,default,default,default,default,default,default,default,default,default⟩⟩
def Gx3 (c:Tx3):Prop:=(GInt .i64) c.Kind∧(GInt .i64) c.Asked∧(GInt .u16) c.Handle∧(GInt .u16) c.Last∧Gx0 c.fT∧(GInt .i64) c.Offset∧(GInt .i64) c.MTU∧(GInt .i64) c.Code∧GTop c.Commit∧(GAll (GInt .u8)) c.Value∧(GAll Gx2) c.List
theorem opens_t47:Opens Tryz.prog 47 12 Rx3 Gx3:=fun {H enc w fuel cs x} h hw=>by
  obtain⟨hl,hf⟩:=struct_at Tryz.underlying47 h hw
  have hl:cs.length=12:=hl.trans (by kernel_rfl)
  refine ⟨hl,?_⟩
  obtain⟨d0,r0,g0⟩:=struct_field (opens_int Tryz.underlying3) hf 0 0 1 rfl (by kernel_rfl)
  obtain⟨d1,r1,g1⟩:=struct_field (opens_int Tryz.underlying3) hf 1 1 1 rfl (by kernel_rfl)
  obtain⟨d2,r2,g2⟩:=struct_field (opens_int Tryz.underlying41) hf 2 2 1 rfl (by kernel_rfl)
  obtain⟨d3,r3,g3⟩:=struct_field (opens_int Tryz.underlying41) hf 3 3 1 rfl (by kernel_rfl)
  obtain⟨d4,r4,g4⟩:=struct_field opens_t43 hf 4 4 2 rfl (by kernel_rfl)
  obtain⟨d5,r5,g5⟩:=struct_field (opens_int Tryz.underlying3) hf 5 6 1 rfl (by kernel_rfl)
  obtain⟨d6,r6,g6⟩:=struct_field (opens_int Tryz.underlying3) hf 6 7 1 rfl (by kernel_rfl)
  obtain⟨d7,r7,g7⟩:=struct_field (opens_int Tryz.underlying3) hf 7 8 1 rfl (by kernel_rfl)
  obtain⟨d8,r8,g8⟩:=struct_field (opens_bool Tryz.underlying4) hf 8 9 1 rfl (by kernel_rfl)
  obtain⟨d9,r9,g9⟩:=struct_field opens_t44 hf 9 10 1 rfl (by kernel_rfl)
  obtain⟨d10,r10,g10⟩:=struct_field opens_t45 hf 10 11 1 rfl (by kernel_rfl)
  obtain⟨c0,c1,c2,c3,c4,c5,c6,c7,c8,c9,c10,c11,rfl⟩:∃c0 c1 c2 c3 c4 c5 c6 c7 c8 c9 c10 c11,cs=[c0,c1,c2,c3,c4,c5,c6,c7,c8,c9,c10,c11]:=by
    clear h hw hf r0 g0 r1 g1 r2 g2 r3 g3 r4 g4 r5 g5 r6 g6 r7 g7 r8 g8 r9 g9 r10 g10
    match cs,hl with
    | [c0,c1,c2,c3,c4,c5,c6,c7,c8,c9,c10,c11],_=>exact⟨c0,c1,c2,c3,c4,c5,c6,c7,c8,c9,c10,c11,rfl⟩
  have e0:c0=Value.int .i64 d0:=one1 (l:=[c0]) (m:=[Value.int .i64 d0]) 0 r0
  have e1:c1=Value.int .i64 d1:=one1 (l:=[c1]) (m:=[Value.int .i64 d1]) 0 r1
  have e2:c2=Value.int .u16 d2:=one1 (l:=[c2]) (m:=[Value.int .u16 d2]) 0 r2
  have e3:c3=Value.int .u16 d3:=one1 (l:=[c3]) (m:=[Value.int .u16 d3]) 0 r3
  have e4:c4=Value.int .u64 d4.High:=one1 (l:=[c4,c5]) (m:=[Value.int .u64 d4.High,Value.int .u64 d4.Low]) 0 r4
  have e5:c5=Value.int .u64 d4.Low:=one1 (l:=[c4,c5]) (m:=[Value.int .u64 d4.High,Value.int .u64 d4.Low]) 1 r4
  have e6:c6=Value.int .i64 d5:=one1 (l:=[c6]) (m:=[Value.int .i64 d5]) 0 r5
  have e7:c7=Value.int .i64 d6:=one1 (l:=[c7]) (m:=[Value.int .i64 d6]) 0 r6
  have e8:c8=Value.int .i64 d7:=one1 (l:=[c8]) (m:=[Value.int .i64 d7]) 0 r7
  have e9:c9=Value.bool d8:=one1 (l:=[c9]) (m:=[Value.bool d8]) 0 r8
  obtain⟨A9_0,k9_0,r9,f9_0⟩:=r9
  have e10:c10=Value.slice A9_0 (List.length d9) k9_0:=one1 (l:=[c10]) (m:=[Value.slice A9_0 (List.length d9) k9_0]) 0 r9
  obtain⟨A10_0,k10_0,r10,f10_0⟩:=r10
  have e11:c11=Value.slice A10_0 (List.length d10) k10_0:=one1 (l:=[c11]) (m:=[Value.slice A10_0 (List.length d10) k10_0]) 0 r10
  subst e0 e1 e2 e3 e4 e5 e6 e7 e8 e9 e10 e11
  exact⟨⟨d0,d1,d2,d3,d4,d5,d6,d7,d8,d9,d10⟩,⟨A9_0,k9_0,A10_0,k10_0,rfl,f9_0,f10_0⟩,⟨g0,g1,g2,g3,g4,g5,g6,g7,g8,g9,g10⟩⟩
theorem opens_t25:Opens Tryz.prog 25 1 (RSl 12 Rx3) (GAll Gx3):=opens_slice Tryz.underlying25 (by kernel_rfl) (by kernel_rfl) opens_t47
end V
end Go.Proofs.YtoahakdkgefgiaaGreat
