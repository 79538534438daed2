/- ServerIndicates: the row. -/
import Derived.Test.YtoahakdkgefgiaaGreatOpen
import Derived.Test.YtoahakdkgefgiaaGreatW6
import Derived.Test.YtoahakdkgefgiaaGreatLawServerIndicates
namespace Go.Proofs.YtoahakdkgefgiaaGreat
open Go.ChangeShapes Go.WideShapes Go.ChangeAt Go.RowKit Go.Deep V
set_option maxRecDepth 100000 in
set_option maxHeartbeats 1000000 in
theorem V.serverIndicates_lifted (os:Os) (started:os.Started) (H:Type) (enc:TypeId×Value→H) :
    ReturnsInHanded {} Tryz.checked os 7 .any (Rows.serverIndicatesSpec.pre6 enc Tryz.prog Tryz.f7 Rows.serverIndicatesRow.domain false) (Rows.serverIndicatesSpec.post enc Tryz.prog Tryz.f7 false true false false):=by
  refine returnsInHanded_of_change_sized (C:=Tryz.checked) V.own started (by kernel_rfl) Tryz.func7
    (ChangeSpec.witness6 (enc:=enc) (C:=Tryz.checked) false ⟨#[],#[.agg #[.slice none 0 0,.slice none 0 0,.int .i64 0,.int .i64 0,.int .i64 0,.bool false,.slice none 0 0,.slice none 0 0]],[]⟩ 8 (by kernel_rfl) (by kernel_rfl) (by kernel_rfl) (by kernel_rfl)) ?_
  intro W base args ds gs before hval0 hW _ hsz _
  have hval:∀(j:Nat) t v,Tryz.f7.params[j]? = some t→args[j]? = some v→Value.okWide Tryz.prog W .any base t v:=hval0
  have hW':DataW.Whole enc Tryz.prog Tryz.f7.params.toList Rows.serverIndicatesSpec.vars false W args.toList ds gs before:=hW
  obtain⟨p,q,hA0,hV,rfl,_,_⟩:=id hW
  have hA:DataW.TrodAll enc Tryz.prog W 0 (fun _=>true) true Tryz.f7.params.toList args.toList ds p:=hA0
  obtain⟨rfl,rfl⟩:=trodVars_none hV
  have hsz1:(DataW.weightsEach Tryz.prog (Tryz.f7.params.toList++[]) (ds++[])).all (·≤reachBytes)=true:=hsz
  clear hsz
  have hsz:(DataW.weightsEach Tryz.prog Tryz.f7.params.toList ds).all (·≤reachBytes)=true:=by simpa only [List.append_nil] using hsz1
  rw [Tryz.params7] at hA hval hsz
  obtain⟨v0,d0,rfl,rfl,h0⟩:=trodAll_one hA
  obtain⟨cs0,x0,rfl,r0,g0⟩:=arg_struct Tryz.underlying74 opens_t74 (hval 0 74 v0 rfl rfl) h0 (weights_arg hsz 0 rfl rfl)
  obtain⟨A0_0,k0_0,A0_1,k0_1,A0_6,k0_6,A0_7,k0_7,rfl,f0_0,f0_1,f0_6,f0_7⟩:=r0
  have hp:q2u FF x0=some true:=(indicates_top x0 (gscript g0))
  exact shut (from_spec (kq2u FF x0 true hp) [.r A0_0 (List.length x0.DBs.1) k0_0,.r A0_1 (List.length x0.DBs.2) k0_1,.r A0_6 (List.length x0.Subs) k0_6,.r A0_7 (List.length x0.Steps) k0_7] rfl (by kernel_rfl) (fun p h=>by rw [show globs=[] from rfl] at h; cases h) ⟨⟨rfl,f0_0⟩,⟨rfl,f0_1⟩,⟨rfl,f0_6⟩,⟨rfl,f0_7⟩,trivial⟩ rfl) hW' rfl rfl rfl Tryz.underlying4 V.laidOut (by kernel_rfl)
theorem serverIndicates_holds:Rows.ServerIndicatesSaid:=
  OpenClaim.holds_of_wide 7 Tryz.f7 rfl rfl rfl rfl rfl rfl rfl ⟨rfl,rfl,rfl,rfl,rfl⟩ rfl rfl rfl rfl rfl (by kernel_rfl) Tryz.func7 (by kernel_rfl)
    (of_decide_eq_true (by kernel_rfl)) (by unfold Func.isWrapper; first | (rw [if_pos (by decide +kernel)]; kernel_rfl) | (rw [if_neg (by decide +kernel)]; exact⟨rfl,rfl⟩))
    (fun os started H enc _=>V.serverIndicates_lifted os started H enc)
end Go.Proofs.YtoahakdkgefgiaaGreat
