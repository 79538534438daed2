/- ServerFits: the row. -/
import Derived.Test.YtoahakdkgefgiaaGreatOpen
import Derived.Test.YtoahakdkgefgiaaGreatW6
import Derived.Test.YtoahakdkgefgiaaGreatLawServerFits
namespace Go.Proofs.YtoahakdkgefgiaaGreat
open Go.ChangeShapes Go.WideShapes Go.ChangeAt Go.RowKit Go.Deep V
set_option maxRecDepth 100000 in
set_option maxHeartbeats 1000000 in
theorem V.serverFits_lifted (os:Os) (started:os.Started) (H:Type) (enc:TypeId×Value→H) :
    ReturnsInHanded {} Tryz.checked os 5 .any (Rows.serverFitsSpec.pre6 enc Tryz.prog Tryz.f5 Rows.serverFitsRow.domain false) (Rows.serverFitsSpec.post enc Tryz.prog Tryz.f5 false true false false):=by
  refine returnsInHanded_of_change_sized (C:=Tryz.checked) V.own started (by kernel_rfl) Tryz.func5
    (ChangeSpec.witness6 (enc:=enc) (C:=Tryz.checked) false ⟨#[],#[.slice none 0 0,.int .i64 0,.int .i64 0,.slice none 0 0],[]⟩ 8 (by kernel_rfl) (by kernel_rfl) (by kernel_rfl) (by kernel_rfl)) ?_
  intro W base args ds gs before hval0 hW _ hsz _
  have hval:∀(j:Nat) t v,Tryz.f5.params[j]? = some t→args[j]? = some v→Value.okWide Tryz.prog W .any base t v:=hval0
  have hW':DataW.Whole enc Tryz.prog Tryz.f5.params.toList Rows.serverFitsSpec.vars false W args.toList ds gs before:=hW
  obtain⟨p,q,hA0,hV,rfl,_,_⟩:=id hW
  have hA:DataW.TrodAll enc Tryz.prog W 0 (fun _=>true) true Tryz.f5.params.toList args.toList ds p:=hA0
  obtain⟨rfl,rfl⟩:=trodVars_none hV
  have hsz1:(DataW.weightsEach Tryz.prog (Tryz.f5.params.toList++[]) (ds++[])).all (·≤reachBytes)=true:=hsz
  clear hsz
  have hsz:(DataW.weightsEach Tryz.prog Tryz.f5.params.toList ds).all (·≤reachBytes)=true:=by simpa only [List.append_nil] using hsz1
  rw [Tryz.params5] at hA hval hsz
  obtain⟨v0,v1,v2,v3,d0,d1,d2,d3,p0,p1,p2,p3,rfl,rfl,rfl,h0,h1,h2,h3⟩:=trod4 hA
  obtain⟨A0,k0,x0,rfl,f0,g0⟩:=arg_slice Tryz.underlying22 opens_t22 (hval 0 22 v0 rfl rfl) h0 (weights_arg hsz 0 rfl rfl)
  obtain⟨x1,rfl,g1⟩:=arg_int Tryz.underlying3 (hval 1 3 v1 rfl rfl) h1 (weights_arg hsz 1 rfl rfl)
  obtain⟨x2,rfl,g2⟩:=arg_int Tryz.underlying3 (hval 2 3 v2 rfl rfl) h2 (weights_arg hsz 2 rfl rfl)
  obtain⟨A3,k3,x3,rfl,f3,g3⟩:=arg_slice Tryz.underlying25 opens_t25 (hval 3 25 v3 rfl rfl) h3 (weights_arg hsz 3 rfl rfl)
  have hp:q2w FF x0 x1 x2 x3=some true:=(fits_top x0 x1 x2 x3 (gdb g0) (gpdus g3))
  exact shut (from_spec (kq2w FF x0 x1 x2 x3 true hp) [.r A0 (List.length x0) k0,.r A3 (List.length x3) k3] rfl (by kernel_rfl) (fun p h=>by rw [show globs=[] from rfl] at h; cases h) ⟨⟨rfl,f0⟩,⟨rfl,f3⟩,trivial⟩ rfl) hW' rfl rfl rfl Tryz.underlying4 V.laidOut (by kernel_rfl)
theorem serverFits_holds:Rows.ServerFitsSaid:=
  OpenClaim.holds_of_wide 5 Tryz.f5 rfl rfl rfl rfl rfl rfl rfl ⟨rfl,rfl,rfl,rfl,rfl⟩ rfl rfl rfl rfl rfl (by kernel_rfl) Tryz.func5 (by kernel_rfl)
    (of_decide_eq_true (by kernel_rfl)) (by unfold Func.isWrapper; first | (rw [if_pos (by decide +kernel)]; kernel_rfl) | (rw [if_neg (by decide +kernel)]; exact⟨rfl,rfl⟩))
    (fun os started H enc _=>V.serverFits_lifted os started H enc)
end Go.Proofs.YtoahakdkgefgiaaGreat
