/- Each argument type opened. -/
import Derived.Test.YtbgfhaahhdnogaaGreatArrO
namespace Go.Proofs.YtbgfhaahhdnogaaGreat
namespace V
open Go.ChangeShapes Go.WideShapes Go.ChangeAt Go.RowKit Go.Deep
theorem own:ownKnob Tryz.prog.godebug=none:=by kernel_rfl
theorem laidOut:laidOutB Tryz.prog=true:=by kernel_rfl
instance:Inhabited Tx0:=⟨⟨default,default,default,default,default⟩⟩
def Gx0 (c:Tx0):Prop:=(GInt .u16) c.PSM∧(GInt .i64) c.MTU∧(GInt .i64) c.MPS∧(GInt .i64) c.Credits∧(GInt .i64) c.Level
theorem opens_t83:Opens Tryz.prog 83 5 Rx0 Gx0:=fun {H enc w fuel cs x} h hw=>by
  obtain⟨hl,hf⟩:=struct_at Tryz.underlying83 h hw
  have hl:cs.length=5:=hl.trans (by kernel_rfl)
  refine ⟨hl,?_⟩
  obtain⟨d0,r0,g0⟩:=struct_field (opens_int Tryz.underlying41) hf 0 0 1 rfl (by kernel_rfl)
  obtain⟨d1,r1,g1⟩:=struct_field (opens_int Tryz.underlying3) hf 1 1 1 rfl (by kernel_rfl)
  obtain⟨d2,r2,g2⟩:=struct_field (opens_int Tryz.underlying3) hf 2 2 1 rfl (by kernel_rfl)
  obtain⟨d3,r3,g3⟩:=struct_field (opens_int Tryz.underlying3) hf 3 3 1 rfl (by kernel_rfl)
  obtain⟨d4,r4,g4⟩:=struct_field (opens_int Tryz.underlying3) hf 4 4 1 rfl (by kernel_rfl)
  obtain⟨c0,c1,c2,c3,c4,rfl⟩:∃c0 c1 c2 c3 c4,cs=[c0,c1,c2,c3,c4]:=by
    clear h hw hf r0 g0 r1 g1 r2 g2 r3 g3 r4 g4
    match cs,hl with
    | [c0,c1,c2,c3,c4],_=>exact⟨c0,c1,c2,c3,c4,rfl⟩
  have e0:c0=Value.int .u16 d0:=one1 (l:=[c0]) (m:=[Value.int .u16 d0]) 0 r0
  have e1:c1=Value.int .i64 d1:=one1 (l:=[c1]) (m:=[Value.int .i64 d1]) 0 r1
  have e2:c2=Value.int .i64 d2:=one1 (l:=[c2]) (m:=[Value.int .i64 d2]) 0 r2
  have e3:c3=Value.int .i64 d3:=one1 (l:=[c3]) (m:=[Value.int .i64 d3]) 0 r3
  have e4:c4=Value.int .i64 d4:=one1 (l:=[c4]) (m:=[Value.int .i64 d4]) 0 r4
  subst e0 e1 e2 e3 e4
  exact⟨⟨d0,d1,d2,d3,d4⟩,rfl,⟨g0,g1,g2,g3,g4⟩⟩
theorem opens_t22:Opens Tryz.prog 22 1 (RSl 5 Rx0) (GAll Gx0):=opens_slice Tryz.underlying22 (by kernel_rfl) (by kernel_rfl) opens_t83
end V
end Go.Proofs.YtbgfhaahhdnogaaGreat
