/- Each argument type opened. -/
import Derived.Test.YtoahakdkgefgiaaGreatArrO
namespace Go.Proofs.YtoahakdkgefgiaaGreat
namespace V
open Go.ChangeShapes Go.WideShapes Go.ChangeAt Go.RowKit Go.Deep
theorem own:ownKnob Tryz.prog.godebug=none:=by kernel_rfl
theorem laidOut:laidOutB Tryz.prog=true:=by kernel_rfl
instance:Inhabited Tx0:=⟨⟨default,default⟩⟩
def Gx0 (c:Tx0):Prop:=(GInt .u64) c.High∧(GInt .u64) c.Low
theorem opens_t43:Opens Tryz.prog 43 2 Rx0 Gx0:=fun {H enc w fuel cs x} h hw=>by
  obtain⟨hl,hf⟩:=struct_at Tryz.underlying43 h hw
  have hl:cs.length=2:=hl.trans (by kernel_rfl)
  refine ⟨hl,?_⟩
  obtain⟨d0,r0,g0⟩:=struct_field (opens_int Tryz.underlying35) hf 0 0 1 rfl (by kernel_rfl)
  obtain⟨d1,r1,g1⟩:=struct_field (opens_int Tryz.underlying35) hf 1 1 1 rfl (by kernel_rfl)
  obtain⟨c0,c1,rfl⟩:∃c0 c1,cs=[c0,c1]:=by
    clear h hw hf r0 g0 r1 g1
    match cs,hl with
    | [c0,c1],_=>exact⟨c0,c1,rfl⟩
  have e0:c0=Value.int .u64 d0:=one1 (l:=[c0]) (m:=[Value.int .u64 d0]) 0 r0
  have e1:c1=Value.int .u64 d1:=one1 (l:=[c1]) (m:=[Value.int .u64 d1]) 0 r1
  subst e0 e1
  exact⟨⟨d0,d1⟩,rfl,⟨g0,g1⟩⟩
theorem opens_t44:Opens Tryz.prog 44 1 (RSl 1 R8) (GAll (GInt .u8)):=opens_slice Tryz.underlying44 (by kernel_rfl) (by kernel_rfl) (opens_int Tryz.underlying5)
instance:Inhabited Tx1:=⟨⟨default,default,default,default⟩⟩
def Gx1 (c:Tx1):Prop:=(GInt .u16) c.Handle∧Gx0 c.fT∧(GInt .i64) c.Perms∧(GAll (GInt .u8)) c.Value
theorem opens_t56:Opens Tryz.prog 56 5 Rx1 Gx1:=fun {H enc w fuel cs x} h hw=>by
  obtain⟨hl,hf⟩:=struct_at Tryz.underlying56 h hw
  have hl:cs.length=5:=hl.trans (by kernel_rfl)
  refine ⟨hl,?_⟩
  obtain⟨d0,r0,g0⟩:=struct_field (opens_int Tryz.underlying41) hf 0 0 1 rfl (by kernel_rfl)
  obtain⟨d1,r1,g1⟩:=struct_field opens_t43 hf 1 1 2 rfl (by kernel_rfl)
  obtain⟨d2,r2,g2⟩:=struct_field (opens_int Tryz.underlying3) hf 2 3 1 rfl (by kernel_rfl)
  obtain⟨d3,r3,g3⟩:=struct_field opens_t44 hf 3 4 1 rfl (by kernel_rfl)
  obtain⟨c0,c1,c2,c3,c4,rfl⟩:∃c0 c1 c2 c3 c4,cs=[c0,c1,c2,c3,c4]:=by
    clear h hw hf r0 g0 r1 g1 r2 g2 r3 g3
    match cs,hl with
    | [c0,c1,c2,c3,c4],_=>exact⟨c0,c1,c2,c3,c4,rfl⟩
  have e0:c0=Value.int .u16 d0:=one1 (l:=[c0]) (m:=[Value.int .u16 d0]) 0 r0
  have e1:c1=Value.int .u64 d1.High:=one1 (l:=[c1,c2]) (m:=[Value.int .u64 d1.High,Value.int .u64 d1.Low]) 0 r1
  have e2:c2=Value.int .u64 d1.Low:=one1 (l:=[c1,c2]) (m:=[Value.int .u64 d1.High,Value.int .u64 d1.Low]) 1 r1
  have e3:c3=Value.int .i64 d2:=one1 (l:=[c3]) (m:=[Value.int .i64 d2]) 0 r2
  obtain⟨A3_0,k3_0,r3,f3_0⟩:=r3
  have e4:c4=Value.slice A3_0 (List.length d3) k3_0:=one1 (l:=[c4]) (m:=[Value.slice A3_0 (List.length d3) k3_0]) 0 r3
  subst e0 e1 e2 e3 e4
  exact⟨⟨d0,d1,d2,d3⟩,⟨A3_0,k3_0,rfl,f3_0⟩,⟨g0,g1,g2,g3⟩⟩
theorem opens_t22:Opens Tryz.prog 22 1 (RSl 5 Rx1) (GAll Gx1):=opens_slice Tryz.underlying22 (by kernel_rfl) (by kernel_rfl) opens_t56
end V
end Go.Proofs.YtoahakdkgefgiaaGreat
