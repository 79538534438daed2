/- MuxChannels: the row. -/
import Derived.Test.YtbgfhaahhdnogaaGreatOpen
import Derived.Test.YtbgfhaahhdnogaaGreatW7
import Derived.Test.YtbgfhaahhdnogaaGreatLawMuxChannels
namespace Go.Proofs.YtbgfhaahhdnogaaGreat
open Go.ChangeShapes Go.WideShapes Go.ChangeAt Go.RowKit Go.Deep V
set_option maxRecDepth 100000 in
set_option maxHeartbeats 1000000 in
theorem V.uX(os:Os)(started:os.Started)(H:Type)(enc:TypeId×Value->H) :
 ReturnsInHanded {} Tryz.checked os 5 .any (Rows.muxChannelsSpec.pre6 enc Tryz.prog Tryz.f5 Rows.muxChannelsRow.domain false) (Rows.muxChannelsSpec.post enc Tryz.prog Tryz.f5 false true false false):=by
 refine returnsInHanded_of_change_sized (C:=Tryz.checked) V.own started (by kernel_rfl) Tryz.func5
  (ChangeSpec.witness6 (enc:=enc) (C:=Tryz.checked) false ⟨#[],#[.agg #[.slice none 0 0,.slice none 0 0,.int .i64 0,.int .i64 0,.slice none 0 0]],[]⟩ 8 (by kernel_rfl) (by kernel_rfl) (by kernel_rfl) (by kernel_rfl)) ?_
 intro W base args ds gs before hval0 hW _ hsz _;have hval:∀(j:Nat) t v,Tryz.f5.params[j]?=some t->args[j]?=some v->Value.okWide Tryz.prog W .any base t v:=hval0;have hW':DataW.Whole enc Tryz.prog Tryz.f5.params.toList Rows.muxChannelsSpec.vars false W args.toList ds gs before:=hW;obtain⟨p,q,hA0,hV,rfl,_,_⟩:=id hW;have hA:DataW.TrodAll enc Tryz.prog W 0 (fun _=>true) true Tryz.f5.params.toList args.toList ds p:=hA0;obtain⟨rfl,rfl⟩:=trodVars_none hV;have hsz1:(DataW.weightsEach Tryz.prog (Tryz.f5.params.toList++[]) (ds++[])).all (·<=reachBytes)=true:=hsz;clear hsz;have hsz:(DataW.weightsEach Tryz.prog Tryz.f5.params.toList ds).all (·<=reachBytes)=true:=by simpa only[List.append_nil]using hsz1
 rw[Tryz.params5]at hA hval hsz;obtain⟨v0,d0,rfl,rfl,h0⟩:=trodAll_one hA;obtain⟨cs0,x0,rfl,r0,g0⟩:=M5 Tryz.underlying55 P5 (hval 0 55 v0 rfl rfl) h0 (I8 hsz 0 rfl rfl);obtain⟨Rh,Qm,Rf,Ql,A0_4,k0_4,rfl,acS,acR,f0_4⟩:=r0;have hp:q3y FF x0=some true:=(Ir x0 (agp g0));exact shut (Qx (kq3y FF x0 true hp) [.r Rh (List.length x0.ak.1) Qm,.r Rf (List.length x0.ak.2) Ql,.r A0_4 (List.length x0.eZ) k0_4] rfl (by kernel_rfl) (fun p h=>by rw[show Z6=[]from rfl]at h;cases h) ⟨⟨rfl,acS⟩,⟨rfl,acR⟩,⟨rfl,f0_4⟩,trivial⟩ rfl) hW' rfl rfl rfl Tryz.underlying4 V.laidOut (by kernel_rfl)
theorem muxChannels_holds:Rows.MuxChannelsSaid:=
 OpenClaim.holds_of_wide 5 Tryz.f5 rfl rfl rfl rfl rfl rfl rfl ⟨rfl,rfl,rfl,rfl,rfl⟩ rfl rfl rfl rfl rfl (by kernel_rfl) Tryz.func5 (by kernel_rfl)
  (of_decide_eq_true (by kernel_rfl)) (by unfold Func.isWrapper;first|(rw[if_pos (by decide +kernel)];kernel_rfl)|(rw[if_neg (by decide +kernel)];exact⟨rfl,rfl⟩))
  (fun os started H enc _=>V.uX os started H enc)
end Go.Proofs.YtbgfhaahhdnogaaGreat
