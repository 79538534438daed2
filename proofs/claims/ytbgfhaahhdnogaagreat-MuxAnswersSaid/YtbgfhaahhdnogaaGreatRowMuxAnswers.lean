/- MuxAnswers: the row. -/
import Derived.Test.YtbgfhaahhdnogaaGreatOpen
import Derived.Test.YtbgfhaahhdnogaaGreatW7
import Derived.Test.YtbgfhaahhdnogaaGreatLawMuxAnswers
namespace Go.Proofs.YtbgfhaahhdnogaaGreat
open Go.ChangeShapes Go.WideShapes Go.ChangeAt Go.RowKit Go.Deep V
set_option maxRecDepth 100000 in
set_option maxHeartbeats 1000000 in
theorem V.vL(os:Os)(started:os.Started)(H:Type)(enc:TypeId×Value->H) :
 ReturnsInHanded {} Tryz.checked os 7 .any (Rows.muxAnswersSpec.pre6 enc Tryz.prog Tryz.f7 Rows.muxAnswersRow.domain false) (Rows.muxAnswersSpec.post enc Tryz.prog Tryz.f7 false true false false):=by
 refine returnsInHanded_of_change_sized (C:=Tryz.checked) V.own started (by kernel_rfl) Tryz.func7
  (ChangeSpec.witness6 (enc:=enc) (C:=Tryz.checked) false ⟨#[],#[.agg #[.slice none 0 0,.slice none 0 0,.int .i64 0,.int .i64 0,.slice none 0 0]],[]⟩ 8 (by kernel_rfl) (by kernel_rfl) (by kernel_rfl) (by kernel_rfl)) ?_
 intro W base args ds gs before hval0 hW _ hsz _;have hval:∀(j:Nat) t v,Tryz.f7.params[j]? = some t->args[j]? = some v->Value.okWide Tryz.prog W .any base t v:=hval0;have hW':DataW.Whole enc Tryz.prog Tryz.f7.params.toList Rows.muxAnswersSpec.vars false W args.toList ds gs before:=hW;obtain⟨p,q,hA0,hV,rfl,_,_⟩:=id hW;have hA:DataW.TrodAll enc Tryz.prog W 0 (fun _=>true) true Tryz.f7.params.toList args.toList ds p:=hA0;obtain⟨rfl,rfl⟩:=trodVars_none hV;have hsz1:(DataW.weightsEach Tryz.prog (Tryz.f7.params.toList++[]) (ds++[])).all (·<=reachBytes)=true:=hsz;clear hsz;have hsz:(DataW.weightsEach Tryz.prog Tryz.f7.params.toList ds).all (·<=reachBytes)=true:=by simpa only[List.append_nil]using hsz1
 rw[Tryz.params7]at hA hval hsz;obtain⟨v0,d0,rfl,rfl,h0⟩:=trodAll_one hA;obtain⟨cs0,x0,rfl,r0,g0⟩:=LG Tryz.underlying55 OA (hval 0 55 v0 rfl rfl) h0 (HZ hsz 0 rfl rfl);obtain⟨PL,OV,PK,OU,A0_4,k0_4,rfl,abh,abg,f0_4⟩:=r0;have hp:q3x FF x0=some true:=(JX x0 (aeM g0));exact shut (O5 (kq3x FF x0 true hp) [.r PL (List.length x0.ak.1) OV,.r PK (List.length x0.ak.2) OU,.r A0_4 (List.length x0.eP) k0_4] rfl (by kernel_rfl) (fun p h=>by rw[show YC=[]from rfl]at h;cases h) ⟨⟨rfl,abh⟩,⟨rfl,abg⟩,⟨rfl,f0_4⟩,trivial⟩ rfl) hW' rfl rfl rfl Tryz.underlying4 V.laidOut (by kernel_rfl)
theorem muxAnswers_holds:Rows.MuxAnswersSaid:=
 OpenClaim.holds_of_wide 7 Tryz.f7 rfl rfl rfl rfl rfl rfl rfl ⟨rfl,rfl,rfl,rfl,rfl⟩ rfl rfl rfl rfl rfl (by kernel_rfl) Tryz.func7 (by kernel_rfl)
  (of_decide_eq_true (by kernel_rfl)) (by unfold Func.isWrapper;first | (rw[if_pos (by decide +kernel)];kernel_rfl) | (rw[if_neg (by decide +kernel)];exact⟨rfl,rfl⟩))
  (fun os started H enc _=>V.vL os started H enc)
end Go.Proofs.YtbgfhaahhdnogaaGreat
