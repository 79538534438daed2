/- BondsPersist: the row. -/
import Derived.Test.YtbdhonofhlpdoaaDoorOpen
import Derived.Test.YtbdhonofhlpdoaaDoorW2
import Derived.Test.YtbdhonofhlpdoaaDoorLawBondsPersist
import Derived.Test.YtbdhonofhlpdoaaDoorCards
import Derived.Test.YtbdhonofhlpdoaaDoorTie
import Derived.LaidLaws
import Derived.LaidHandle
import Derived.Lib.LaidTab
import Derived.SevenTiedAt
import Derived.JoinedOf
import Derived.Carry
namespace Go.Proofs.YtbdhonofhlpdoaaDoor
open Go.ChangeShapes Go.WideShapes Go.ChangeAt Go.RowKit Go.Deep V
noncomputable def V.laidWorld (os:Os):World:=
  let w0:=World.holding Tryd.prog os ⟨#[],#[],[]⟩
  { w0 with heap:=((w0.heap).modify 0 fun
      | .cells _ t frozen=>.cells #[.int .u64 0,.int .u64 0,.int .u64 3,.int .u64 1,.int .u64 0] t frozen
      | o=>o).modify 1 fun
      | .cells _ t frozen=>.cells #[.int .u32 0,.int .u32 1788928,.int .u32 3577856,.int .u32 3003392,.int .u32 7155712,.int .u32 7764992,.int .u32 6006784,.int .u32 4252672,.int .u32 14311424,.int .u32 12659712,.int .u32 15529984,.int .u32 16233472,.int .u32 12013568,.int .u32 11279360,.int .u32 8505344,.int .u32 10126336] t frozen
      | o=>o }
theorem V.laidWorld_met (os:Os) (args:Array Value):laidMetH Tryd.prog Rows.bondsPersistRow.laid ((V.laidWorld os).forCall (fun _ _=>0) ⟨#[],args,[]⟩).memory:=
  laidMetH_of_parts (laidMet_of_run' 8 (by kernel_rfl) (by kernel_rfl)) (by kernel_rfl)
theorem V.mtl {P:Program} {w:World} {n d l} (h:laidMet P ((n,d)::l) w):laidMet P l w:=by
  obtain⟨ps,hl,hnd,hrows⟩:=h
  obtain⟨g,t,cs,fuel,p,q,e1,e2,e3,e4,hr,rfl⟩:=hl
  exact⟨q,hr,hnd.sublist (List.sublist_append_right _ _),fun b off hp=>hrows b off (List.mem_append_right _ hp)⟩
theorem V.tab_globs {W:World} {g:Nat} {k:IntKind} {zs:List Int} (hc:∀i,i<zs.length→W.cell? ⟨g,i,none⟩=some (.int k (zs.getD i 0))) (j:Nat) (v:Value) (hj:(zs.map (Value.int k))[j]? = some v):W.cell? ⟨g,j,none⟩=some v:=by
  have hl:=(List.getElem?_eq_some_iff.1 hj).1
  rw [List.length_map] at hl
  rw [hc j hl]
  rw [List.getElem?_map,List.getElem?_eq_getElem hl] at hj
  injection hj with hj
  rw [← hj,List.getD_eq_getElem?_getD,List.getElem?_eq_getElem hl]
  rfl
theorem V.laid_globs {W:World} (h:laidMetH Tryd.prog Rows.bondsPersistRow.laid W):Globs (fun _=>False) [] W:=fun p hp=>by
  have h0:laidMet Tryd.prog [("wireless/address.prefixes",Lib.tabData .u64 [0,0,3,1,0]),("wireless/crc.sums",Lib.tabData .u32 [0,1788928,3577856,3003392,7155712,7764992,6006784,4252672,14311424,12659712,15529984,16233472,12013568,11279360,8505344,10126336])] W:=h
  simp only [globs,List.mem_cons,List.not_mem_nil,or_false] at hp
  rcases hp with rfl | rfl
  · exact⟨by simp,fun h=>h,by simp,V.tab_globs fun i hi=>(Lib.tabIs_of_head (g:=0) (t:=126) (e:=22) (n:=5) (by kernel_rfl) (by kernel_rfl) Tryd.underlying126 Tryd.underlying22 (by kernel_rfl) (by kernel_rfl) h0).cell (by kernel_rfl) i hi⟩
  · exact⟨by simp,fun h=>h,by simp,V.tab_globs fun i hi=>(Lib.tabIs_of_head (g:=1) (t:=177) (e:=159) (n:=16) (by kernel_rfl) (by kernel_rfl) Tryd.underlying177 Tryd.underlying159 (by kernel_rfl) (by kernel_rfl) (V.mtl h0)).cell (by kernel_rfl) i hi⟩
set_option maxRecDepth 100000 in
set_option maxHeartbeats 1000000 in
theorem V.bondsPersist_lifted (os:Os) (started:os.Started) (H:Type) (enc:TypeId×Value→H) :
    ReturnsInHanded {} Tryd.checked os 7 .any (fun w args=>(Rows.bondsPersistSpec.pre enc Tryd.prog Tryd.f7 Rows.bondsPersistRow.domain false w args∧laidMetH Tryd.prog Rows.bondsPersistRow.laid w)∧sizedMet enc Tryd.prog Tryd.f7 (OpenSpec.ofChange Rows.bondsPersistSpec) false w args) (Rows.bondsPersistSpec.post enc Tryd.prog Tryd.f7 false true false false):=by
  refine returnsInHanded_of_change_and (C:=Tryd.checked) (X:=fun w _=>laidMetH Tryd.prog Rows.bondsPersistRow.laid w) (fun _ _ _ hh h=>h.of_heap hh) V.own started (by kernel_rfl) Tryd.func7
    (ChangeSpec.witness_at (enc:=enc) (C:=Tryd.checked) (os:=os) (X:=fun w _=>laidMetH Tryd.prog Rows.bondsPersistRow.laid w) false (V.laidWorld os) #[.int .i64 0,.slice none 0 0] 8 rfl (by kernel_rfl) (by kernel_rfl) (by kernel_rfl) (by kernel_rfl) (by kernel_rfl) (V.laidWorld_met os _)) ?_
  intro W base args ds gs before hval0 hW _ hsz hL _
  have hval:∀(j:Nat) t v,Tryd.f7.params[j]? = some t→args[j]? = some v→Value.okWide Tryd.prog W .any base t v:=hval0
  have hW':DataW.Whole enc Tryd.prog Tryd.f7.params.toList Rows.bondsPersistSpec.vars false W args.toList ds gs before:=hW
  obtain⟨p,q,hA0,hV,rfl,_,_⟩:=id hW
  have hA:DataW.TrodAll enc Tryd.prog W 0 (fun _=>true) true Tryd.f7.params.toList args.toList ds p:=hA0
  obtain⟨rfl,rfl⟩:=trodVars_none hV
  have hsz1:(DataW.weightsEach Tryd.prog (Tryd.f7.params.toList++[]) (ds++[])).all (·≤reachBytes)=true:=hsz
  clear hsz
  have hsz:(DataW.weightsEach Tryd.prog Tryd.f7.params.toList ds).all (·≤reachBytes)=true:=by simpa only [List.append_nil] using hsz1
  rw [Tryd.params7] at hA hval hsz
  obtain⟨v0,v1,d0,d1,p0,p1,rfl,rfl,rfl,h0,h1⟩:=trodAll_two hA
  obtain⟨x0,rfl,g0⟩:=arg_int Tryd.underlying3 (hval 0 3 v0 rfl rfl) h0 (weights_arg hsz 0 rfl rfl)
  obtain⟨A1,k1,x1,rfl,f1,g1⟩:=arg_slice Tryd.underlying73 opens_t73 (hval 1 73 v1 rfl rfl) h1 (weights_arg hsz 1 rfl rfl)
  have hp:wirelesslaw40_BondsPersist FF x0 x1=some true:=(persist_g x0 x1 g1)
  exact shut (from_spec (ok_wirelesslaw40_BondsPersist FF x0 x1 true hp) [.r A1 (List.length x1) k1] rfl (by kernel_rfl) (V.laid_globs hL) ⟨⟨rfl,f1⟩,trivial⟩ rfl) hW' rfl rfl rfl Tryd.underlying4 V.laidOut (by kernel_rfl)
theorem bondsPersist_holds:Rows.BondsPersistSaid:=
  OpenClaim.holds_of_wide 7 Tryd.f7 rfl rfl rfl rfl rfl rfl rfl ⟨rfl,rfl,rfl,rfl,rfl⟩ rfl rfl rfl rfl rfl (by kernel_rfl) Tryd.func7 (by kernel_rfl)
    (of_decide_eq_true (by kernel_rfl)) (by unfold Func.isWrapper; first | (rw [if_pos (by decide +kernel)]; kernel_rfl) | (rw [if_neg (by decide +kernel)]; exact⟨rfl,rfl⟩))
    (fun os started H enc _=>V.bondsPersist_lifted os started H enc)
theorem bondsPersistCard_holds:Rows.BondsPersistCardSaid:=
  Claim7.holds_tied_plain_at .later [] [.data,.data] true (true,"d2f41ddd1dcf2ac54a3e713b563eee8a08e085c38cffdac529ae66f215a5a175") true
    bondsPersist_holds (fun _ h=>by cases h) (by kernel_rfl) (fun _ h=>by cases h) bondsPersist_row_tie rfl ⟨rfl,rfl⟩ (by kernel_rfl) rfl
    (fun f fn hf hfn=>by
      obtain rfl:f=7:=Option.some.inj ((show Tryd.prog.funcNamed "wireless/wirelesslaw40.BondsPersist" = some 7 by kernel_rfl).symm.trans hf) |>.symm
      obtain rfl:fn=Tryd.f7:=(Option.some.inj (Tryd.func7.symm.trans hfn)).symm
      exact⟨by kernel_rfl,fun j t ht=>by
        rw [Tryd.params7] at ht
        have hm:=Array.mem_of_getElem? ht
        rw [List.mem_toArray] at hm
        have hall:([3,73].all fun u=>!Tryd.prog.wantsStandIn u)=true:=by kernel_rfl
        exact (show Tryd.prog.wantsStandIn t=false by simpa using List.all_eq_true.1 hall t hm)⟩)
    (by kernel_rfl)
end Go.Proofs.YtbdhonofhlpdoaaDoor
