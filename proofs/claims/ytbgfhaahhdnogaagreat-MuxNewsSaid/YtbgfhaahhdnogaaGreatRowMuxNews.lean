/- MuxNews: the row. -/
import Derived.Test.YtbgfhaahhdnogaaGreatOpen
import Derived.Test.YtbgfhaahhdnogaaGreatW2
import Derived.Test.YtbgfhaahhdnogaaGreatLawMuxNews
namespace Go.Proofs.YtbgfhaahhdnogaaGreat
open Go.ChangeShapes Go.WideShapes Go.ChangeAt Go.RowKit Go.Deep V
set_option maxRecDepth 100000 in
set_option maxHeartbeats 1000000 in
theorem V.muxNews_lifted (os:Os) (started:os.Started) (H:Type) (enc:TypeId×Value→H) :
    ReturnsInHanded {} Tryz.checked os 3 .any (Rows.muxNewsSpec.pre6 enc Tryz.prog Tryz.f3 Rows.muxNewsRow.domain false) (Rows.muxNewsSpec.post enc Tryz.prog Tryz.f3 false true false false):=by
  refine returnsInHanded_of_change_sized (C:=Tryz.checked) V.own started (by kernel_rfl) Tryz.func3
    (ChangeSpec.witness6 (enc:=enc) (C:=Tryz.checked) false ⟨#[],#[.int .i64 0,.slice none 0 0,.int .i64 0],[]⟩ 8 (by kernel_rfl) (by kernel_rfl) (by kernel_rfl) (by kernel_rfl)) ?_
  intro W base args ds gs before hval0 hW _ hsz _
  have hval:∀(j:Nat) t v,Tryz.f3.params[j]? = some t→args[j]? = some v→Value.okWide Tryz.prog W .any base t v:=hval0
  have hW':DataW.Whole enc Tryz.prog Tryz.f3.params.toList Rows.muxNewsSpec.vars false W args.toList ds gs before:=hW
  obtain⟨p,q,hA0,hV,rfl,_,_⟩:=id hW
  have hA:DataW.TrodAll enc Tryz.prog W 0 (fun _=>true) true Tryz.f3.params.toList args.toList ds p:=hA0
  obtain⟨rfl,rfl⟩:=trodVars_none hV
  have hsz1:(DataW.weightsEach Tryz.prog (Tryz.f3.params.toList++[]) (ds++[])).all (·≤reachBytes)=true:=hsz
  clear hsz
  have hsz:(DataW.weightsEach Tryz.prog Tryz.f3.params.toList ds).all (·≤reachBytes)=true:=by simpa only [List.append_nil] using hsz1
  rw [Tryz.params3] at hA hval hsz
  obtain⟨v0,v1,v2,d0,d1,d2,p0,p1,p2,rfl,rfl,rfl,h0,h1,h2⟩:=trodAll_three hA
  obtain⟨x0,rfl,g0⟩:=arg_int Tryz.underlying3 (hval 0 3 v0 rfl rfl) h0 (weights_arg hsz 0 rfl rfl)
  obtain⟨A1,k1,x1,rfl,f1,g1⟩:=arg_slice Tryz.underlying22 opens_t22 (hval 1 22 v1 rfl rfl) h1 (weights_arg hsz 1 rfl rfl)
  obtain⟨x2,rfl,g2⟩:=arg_int Tryz.underlying3 (hval 2 3 v2 rfl rfl) h2 (weights_arg hsz 2 rfl rfl)
  have hp:q15 FF x0 x1 x2=some true:=(news_top x0 x1 x2 )
  exact shut (from_spec (kq15 FF x0 x1 x2 true hp) [.r A1 (List.length x1) k1] rfl (by kernel_rfl) (fun p h=>by rw [show globs=[] from rfl] at h; cases h) ⟨⟨rfl,f1⟩,trivial⟩ rfl) hW' rfl rfl rfl Tryz.underlying4 V.laidOut (by kernel_rfl)
theorem muxNews_holds:Rows.MuxNewsSaid:=
  OpenClaim.holds_of_wide 3 Tryz.f3 rfl rfl rfl rfl rfl rfl rfl ⟨rfl,rfl,rfl,rfl,rfl⟩ rfl rfl rfl rfl rfl (by kernel_rfl) Tryz.func3 (by kernel_rfl)
    (of_decide_eq_true (by kernel_rfl)) (by unfold Func.isWrapper; first | (rw [if_pos (by decide +kernel)]; kernel_rfl) | (rw [if_neg (by decide +kernel)]; exact⟨rfl,rfl⟩))
    (fun os started H enc _=>V.muxNews_lifted os started H enc)
end Go.Proofs.YtbgfhaahhdnogaaGreat
