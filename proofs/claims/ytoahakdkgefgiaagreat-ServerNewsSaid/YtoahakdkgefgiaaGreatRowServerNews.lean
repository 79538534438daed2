/- ServerNews: the row. -/
import Derived.Test.YtoahakdkgefgiaaGreatOpen
import Derived.Test.YtoahakdkgefgiaaGreatW5
import Derived.Test.YtoahakdkgefgiaaGreatLawServerNews
namespace Go.Proofs.YtoahakdkgefgiaaGreat
open Go.ChangeShapes Go.WideShapes Go.ChangeAt Go.RowKit Go.Deep V
set_option maxRecDepth 100000 in
set_option maxHeartbeats 1000000 in
theorem V.serverNews_lifted (os:Os) (started:os.Started) (H:Type) (enc:TypeId×Value→H) :
    ReturnsInHanded {} Tryz.checked os 6 .any (Rows.serverNewsSpec.pre6 enc Tryz.prog Tryz.f6 Rows.serverNewsRow.domain false) (Rows.serverNewsSpec.post enc Tryz.prog Tryz.f6 false true false false):=by
  refine returnsInHanded_of_change_sized (C:=Tryz.checked) V.own started (by kernel_rfl) Tryz.func6
    (ChangeSpec.witness6 (enc:=enc) (C:=Tryz.checked) false ⟨#[],#[.slice none 0 0,.agg #[.int .i64 0,.int .i64 0,.int .i64 0],.bool false,.slice none 0 0,.int .i64 0],[]⟩ 8 (by kernel_rfl) (by kernel_rfl) (by kernel_rfl) (by kernel_rfl)) ?_
  intro W base args ds gs before hval0 hW _ hsz _
  have hval:∀(j:Nat) t v,Tryz.f6.params[j]? = some t→args[j]? = some v→Value.okWide Tryz.prog W .any base t v:=hval0
  have hW':DataW.Whole enc Tryz.prog Tryz.f6.params.toList Rows.serverNewsSpec.vars false W args.toList ds gs before:=hW
  obtain⟨p,q,hA0,hV,rfl,_,_⟩:=id hW
  have hA:DataW.TrodAll enc Tryz.prog W 0 (fun _=>true) true Tryz.f6.params.toList args.toList ds p:=hA0
  obtain⟨rfl,rfl⟩:=trodVars_none hV
  have hsz1:(DataW.weightsEach Tryz.prog (Tryz.f6.params.toList++[]) (ds++[])).all (·≤reachBytes)=true:=hsz
  clear hsz
  have hsz:(DataW.weightsEach Tryz.prog Tryz.f6.params.toList ds).all (·≤reachBytes)=true:=by simpa only [List.append_nil] using hsz1
  rw [Tryz.params6] at hA hval hsz
  obtain⟨v0,v1,v2,v3,v4,d0,d1,d2,d3,d4,p0,p1,p2,p3,p4,rfl,rfl,rfl,h0,h1,h2,h3,h4⟩:=trod5 hA
  obtain⟨A0,k0,x0,rfl,f0,g0⟩:=arg_slice Tryz.underlying22 opens_t22 (hval 0 22 v0 rfl rfl) h0 (weights_arg hsz 0 rfl rfl)
  obtain⟨cs1,x1,rfl,r1,g1⟩:=arg_array Tryz.underlying68 opens_t68 (hval 1 68 v1 rfl rfl) h1 (weights_arg hsz 1 rfl rfl)
  obtain rfl:=r1
  obtain⟨x2,rfl⟩:=arg_bool Tryz.underlying4 (hval 2 4 v2 rfl rfl)
  obtain⟨A3,k3,x3,rfl,f3,g3⟩:=arg_slice Tryz.underlying24 opens_t24 (hval 3 24 v3 rfl rfl) h3 (weights_arg hsz 3 rfl rfl)
  obtain⟨x4,rfl,g4⟩:=arg_int Tryz.underlying3 (hval 4 3 v4 rfl rfl) h4 (weights_arg hsz 4 rfl rfl)
  have hp:wirelesslaw45_ServerNews FF x0 x1 x2 x3 x4=some true:=(news_top x0 x1 x2 x3 x4 (gdb g0) (gsubs g3))
  exact shut (from_spec (ok_wirelesslaw45_ServerNews FF x0 x1 x2 x3 x4 true hp) [.r A0 (List.length x0) k0,.r A3 (List.length x3) k3] rfl (by kernel_rfl) (fun p h=>by rw [show globs=[] from rfl] at h; cases h) ⟨⟨rfl,f0⟩,⟨rfl,f3⟩,trivial⟩ rfl) hW' rfl rfl rfl Tryz.underlying4 V.laidOut (by kernel_rfl)
theorem serverNews_holds:Rows.ServerNewsSaid:=
  OpenClaim.holds_of_wide 6 Tryz.f6 rfl rfl rfl rfl rfl rfl rfl ⟨rfl,rfl,rfl,rfl,rfl⟩ rfl rfl rfl rfl rfl (by kernel_rfl) Tryz.func6 (by kernel_rfl)
    (of_decide_eq_true (by kernel_rfl)) (by unfold Func.isWrapper; first | (rw [if_pos (by decide +kernel)]; kernel_rfl) | (rw [if_neg (by decide +kernel)]; exact⟨rfl,rfl⟩))
    (fun os started H enc _=>V.serverNews_lifted os started H enc)
end Go.Proofs.YtoahakdkgefgiaaGreat
