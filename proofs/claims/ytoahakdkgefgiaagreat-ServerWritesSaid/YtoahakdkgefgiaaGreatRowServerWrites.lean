/- ServerWrites: the row. -/
import Derived.Test.YtoahakdkgefgiaaGreatOpen
import Derived.Test.YtoahakdkgefgiaaGreatW5
import Derived.Test.YtoahakdkgefgiaaGreatLawServerWrites
namespace Go.Proofs.YtoahakdkgefgiaaGreat
open Go.ChangeShapes Go.WideShapes Go.ChangeAt Go.RowKit Go.Deep V
set_option maxRecDepth 100000 in
set_option maxHeartbeats 1000000 in
theorem V.serverWrites_lifted (os:Os) (started:os.Started) (H:Type) (enc:TypeId×Value→H) :
    ReturnsInHanded {} Tryz.checked os 4 .any (Rows.serverWritesSpec.pre6 enc Tryz.prog Tryz.f4 Rows.serverWritesRow.domain false) (Rows.serverWritesSpec.post enc Tryz.prog Tryz.f4 false true false false):=by
  refine returnsInHanded_of_change_sized (C:=Tryz.checked) V.own started (by kernel_rfl) Tryz.func4
    (ChangeSpec.witness6 (enc:=enc) (C:=Tryz.checked) false ⟨#[],#[.slice none 0 0,.int .u8 0,.slice none 0 0,.int .i64 0,.bool false],[]⟩ 8 (by kernel_rfl) (by kernel_rfl) (by kernel_rfl) (by kernel_rfl)) ?_
  intro W base args ds gs before hval0 hW _ hsz _
  have hval:∀(j:Nat) t v,Tryz.f4.params[j]? = some t→args[j]? = some v→Value.okWide Tryz.prog W .any base t v:=hval0
  have hW':DataW.Whole enc Tryz.prog Tryz.f4.params.toList Rows.serverWritesSpec.vars false W args.toList ds gs before:=hW
  obtain⟨p,q,hA0,hV,rfl,_,_⟩:=id hW
  have hA:DataW.TrodAll enc Tryz.prog W 0 (fun _=>true) true Tryz.f4.params.toList args.toList ds p:=hA0
  obtain⟨rfl,rfl⟩:=trodVars_none hV
  have hsz1:(DataW.weightsEach Tryz.prog (Tryz.f4.params.toList++[]) (ds++[])).all (·≤reachBytes)=true:=hsz
  clear hsz
  have hsz:(DataW.weightsEach Tryz.prog Tryz.f4.params.toList ds).all (·≤reachBytes)=true:=by simpa only [List.append_nil] using hsz1
  rw [Tryz.params4] at hA hval hsz
  obtain⟨v0,v1,v2,v3,v4,d0,d1,d2,d3,d4,p0,p1,p2,p3,p4,rfl,rfl,rfl,h0,h1,h2,h3,h4⟩:=trod5 hA
  obtain⟨A0,k0,x0,rfl,f0,g0⟩:=arg_slice Tryz.underlying22 opens_t22 (hval 0 22 v0 rfl rfl) h0 (weights_arg hsz 0 rfl rfl)
  obtain⟨x1,rfl,g1⟩:=arg_int Tryz.underlying5 (hval 1 5 v1 rfl rfl) h1 (weights_arg hsz 1 rfl rfl)
  obtain⟨A2,k2,x2,rfl,f2,g2⟩:=arg_slice Tryz.underlying44 opens_t44 (hval 2 44 v2 rfl rfl) h2 (weights_arg hsz 2 rfl rfl)
  obtain⟨x3,rfl,g3⟩:=arg_int Tryz.underlying3 (hval 3 3 v3 rfl rfl) h3 (weights_arg hsz 3 rfl rfl)
  obtain⟨x4,rfl⟩:=arg_bool Tryz.underlying4 (hval 4 4 v4 rfl rfl)
  have hp:q25 FF x0 x1 x2 x3 x4=some true:=(writes_top x0 x1 x2 x3 x4 (gdb g0) (gat g1))
  exact shut (from_spec (kq25 FF x0 x1 x2 x3 x4 true hp) [.r A0 (List.length x0) k0,.r A2 (List.length x2) k2] rfl (by kernel_rfl) (fun p h=>by rw [show globs=[] from rfl] at h; cases h) ⟨⟨rfl,f0⟩,⟨rfl,f2⟩,trivial⟩ rfl) hW' rfl rfl rfl Tryz.underlying4 V.laidOut (by kernel_rfl)
theorem serverWrites_holds:Rows.ServerWritesSaid:=
  OpenClaim.holds_of_wide 4 Tryz.f4 rfl rfl rfl rfl rfl rfl rfl ⟨rfl,rfl,rfl,rfl,rfl⟩ rfl rfl rfl rfl rfl (by kernel_rfl) Tryz.func4 (by kernel_rfl)
    (of_decide_eq_true (by kernel_rfl)) (by unfold Func.isWrapper; first | (rw [if_pos (by decide +kernel)]; kernel_rfl) | (rw [if_neg (by decide +kernel)]; exact⟨rfl,rfl⟩))
    (fun os started H enc _=>V.serverWrites_lifted os started H enc)
end Go.Proofs.YtoahakdkgefgiaaGreat
