/- MuxPlays: the row. -/
import Derived.Test.YtbgfhaahhdnogaaGreatOpen
import Derived.Test.YtbgfhaahhdnogaaGreatW5
import Derived.Test.YtbgfhaahhdnogaaGreatLawMuxPlays
namespace Go.Proofs.YtbgfhaahhdnogaaGreat
open Go.ChangeShapes Go.WideShapes Go.ChangeAt Go.RowKit Go.Deep V
set_option maxRecDepth 100000 in
set_option maxHeartbeats 1000000 in
theorem V.muxPlays_lifted(os:Os)(started:os.Started)(H:Type)(enc:TypeId×Value→H) :
 ReturnsInHanded {} Tryz.checked os 4 .any (Rows.muxPlaysSpec.pre6 enc Tryz.prog Tryz.f4 Rows.muxPlaysRow.domain false) (Rows.muxPlaysSpec.post enc Tryz.prog Tryz.f4 false true false false):=by
 refine returnsInHanded_of_change_sized (C:=Tryz.checked) V.own started (by kernel_rfl) Tryz.func4
  (ChangeSpec.witness6 (enc:=enc) (C:=Tryz.checked) false ⟨#[],#[.agg #[.int .i64 0,.slice none 0 0,.slice none 0 0]],[]⟩ 8 (by kernel_rfl) (by kernel_rfl) (by kernel_rfl) (by kernel_rfl)) ?_
 intro W base args ds gs before hval0 hW _ hsz _
 have hval:∀(j:Nat) t v,Tryz.f4.params[j]? = some t→args[j]? = some v→Value.okWide Tryz.prog W .any base t v:=hval0
 have hW':DataW.Whole enc Tryz.prog Tryz.f4.params.toList Rows.muxPlaysSpec.vars false W args.toList ds gs before:=hW
 obtain⟨p,q,hA0,hV,rfl,_,_⟩:=id hW
 have hA:DataW.TrodAll enc Tryz.prog W 0 (fun _=>true) true Tryz.f4.params.toList args.toList ds p:=hA0
 obtain⟨rfl,rfl⟩:=trodVars_none hV
 have hsz1:(DataW.weightsEach Tryz.prog (Tryz.f4.params.toList++[]) (ds++[])).all (·≤reachBytes)=true:=hsz
 clear hsz
 have hsz:(DataW.weightsEach Tryz.prog Tryz.f4.params.toList ds).all (·≤reachBytes)=true:=by simpa only[List.append_nil]using hsz1
 rw[Tryz.params4]at hA hval hsz
 obtain⟨v0,d0,rfl,rfl,h0⟩:=trodAll_one hA
 obtain⟨cs0,x0,rfl,r0,g0⟩:=FZ Tryz.underlying40 Iy (hval 0 40 v0 rfl rfl) h0 (BQ hsz 0 rfl rfl)
 obtain⟨A0_1,k0_1,A0_2,k0_2,rfl,f0_1,f0_2⟩:=r0
 have hp:Wm FF x0=some true:=(Ik x0 (TP g0))
 exact shut (I7 (kq51 FF x0 true hp) [.r A0_1 (List.length x0.ay) k0_1,.r A0_2 (List.length x0.Steps) k0_2] rfl (by kernel_rfl) (fun p h=>by rw[show Ql=[]from rfl]at h; cases h) ⟨⟨rfl,f0_1⟩,⟨rfl,f0_2⟩,trivial⟩ rfl) hW' rfl rfl rfl Tryz.underlying4 V.laidOut (by kernel_rfl)
theorem muxPlays_holds:Rows.MuxPlaysSaid:=
 OpenClaim.holds_of_wide 4 Tryz.f4 rfl rfl rfl rfl rfl rfl rfl ⟨rfl,rfl,rfl,rfl,rfl⟩ rfl rfl rfl rfl rfl (by kernel_rfl) Tryz.func4 (by kernel_rfl)
  (of_decide_eq_true (by kernel_rfl)) (by unfold Func.isWrapper; first | (rw[if_pos (by decide +kernel)]; kernel_rfl) | (rw[if_neg (by decide +kernel)]; exact⟨rfl,rfl⟩))
  (fun os started H enc _=>V.muxPlays_lifted os started H enc)
end Go.Proofs.YtbgfhaahhdnogaaGreat
