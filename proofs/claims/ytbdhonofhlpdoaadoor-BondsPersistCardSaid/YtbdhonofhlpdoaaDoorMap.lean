/- Maps of the call's own: made, written; maps read. -/
import Derived.Test.YtbdhonofhlpdoaaDoorGlob
namespace Go.Proofs.YtbdhonofhlpdoaaDoor
namespace V
section
variable {P:Program} {N n0:Nat} {fx:Fx} {its its':List Item} {κ:List Conc} {w:World} {tt:TT} {env:Env'} {α:Type} {R:RT α} [GRep R]
def TMap (tt:TT) (ty:TypeId) (k:IntKind) (z:Value):Bool:=match lkT ty tt with
  | some ⟨.map kt e,_,_,_,_⟩=>(match lkT kt tt,lkT e tt with
    | some ⟨.int k',_,_,_,_⟩,some ⟨_,_,_,some z',_⟩=>decide (k=k')&&(match z,z' with
      | .slice none 0 0,.slice none 0 0=>true
      | _,_=>false)
    | _,_=>false)
  | _=>false
theorem tmap_get (htt:TTOk P tt) {ty:TypeId} {k:IntKind} {z:Value} (h:TMap tt ty k z=true):∃kt e,P.underlying ty=some (.map kt e)∧P.underlying kt=some (.int k)∧(∀w,(zeroValue e).run P w = .ok z w)∧z = .slice none 0 0:=by
  unfold TMap at h
  split at h
  · rename_i kt e _ _ _ _ h1
    split at h
    · rename_i k' _ _ _ _ u _ _ z' _ h2 h3
      rw [Bool.and_eq_true] at h
      obtain⟨hk,hz⟩:=h
      have hk:=of_decide_eq_true hk
      subst hk
      split at hz
      · exact⟨kt,e,(htt.get h1).und,(htt.get h2).und,(htt.get h3).zero _ rfl,rfl⟩
      · cases hz
    · cases h
  · cases h
theorem e_mmake (k:IntKind) (R:RT α) [GRep R] (how:its.any Item.ow=false) {d:Option Nat} {t ty:TypeId} {ps:String} {af:Array Edge} {g:Option (Nat×Bool)}:Eff P N n0 fx env its ⟨d,.makeMap ty none,t,ps,af,g⟩ (some (vm its.length)) (its++[.mp k R true []]):=fun κ w S a ha=>by
  have hC:=S.ctx.alloc (.map #[] 0)
  refine .inl ⟨.map (some w.heap.size),w.alloc (.map #[] 0),?_,[.m (some w.heap.size)],fun x hx=>?_,S.push how (it:=.mp k R true []) (c:=.m (some w.heap.size)) hC.1.rot hC.2.rot rfl ?_⟩
  · have hr:(Instr.makeMap ty none).run P w = .ok (.map (some w.heap.size)) (w.alloc (.map #[] 0)):=rfl
    simp only [execOp,Option.map_none,hr,Sem.run_bind,Result.andThen_ok,Sem.run_pure]
  · injection hx with hx
    subst hx
    simp only [SV.den,Cell.den]
    rw [List.getElem?_append_right (by rw [S.len]; exact Nat.le_refl _),S.len]
    simp
  · exact⟨_,rfl,#[],0,heap_alloc_new w _,rfl⟩
theorem e_mput (htt:TTOk P tt) {d:Option Nat} {t ty:TypeId} {ps:String} {af:Array Edge} {g:Option (Nat×Bool)} {x y q:Operand} {i:Nat} {k:IntKind} {iv:Int} {l:List (Int×α)} {e:α} {z:Value} {c:Cell}
    (hx:evS env x=some (vm i)) (hi:its[i]? = some (.mp k R true l)) (hy:evS env y=some (vi k iv)) (hq:evS env q=some (.c c)) (hc:Clo its R [c] e) (hT:TMap tt ty k z=true) (how:its.any Item.ow=false) :
    Eff P N n0 fx env its ⟨d,.mapUpdate ty x y q,t,ps,af,g⟩ none (its.set i (.mp k R true (mput l iv e))):=fun κ w S a ha=>by
  obtain⟨kt,te,h1,h2,_,_⟩:=tmap_get htt hT
  obtain⟨cc,hcc,hok⟩:=S.conc hi
  cases cc with
  | m b0=>
    simp only [OK] at hok
    obtain⟨b,rfl,hm⟩:=hok
    have hil:i<its.length:=(List.getElem?_eq_some_iff.1 hi).1
    have hLb:(Lof its κ)[i]? = some (some b):=Lof_get hi hcc
    have hr:R (Mu fx.U0 (Lof its κ)) w [c.den κ] e:=hc S
    obtain⟨es',c',hrun,hents⟩:=run_mput (P:=P) (v:=c.den κ) (x:=iv) hm h1 h2 hr
    have hlt:=hm.lt
    have hx':=evS_den (κ:=κ) hx
    have hy':=evS_den (κ:=κ) hy
    have hq':=evS_den (κ:=κ) hq
    simp only [SV.den,Cell.den,hcc] at hx' hy'
    simp only [SV.den] at hq'
    refine .inr (.inl ⟨{ w with heap:=w.heap.setIfInBounds b (.map es' c') },?_,[],⟨fun _ hz=>(by cases hz),?_⟩⟩)
    · simp only [execOp,ha.ev hx',ha.ev hy',ha.ev hq',hrun,Sem.run_bind,Result.andThen_ok,Sem.run_pure]
    · rw [List.append_nil]
      have hT2:=S.ctx.turn (w':={ w with heap:=w.heap.setIfInBounds b (.map es' c') }) (y:=some b) (L':=Lof its κ) hLb rfl rfl rfl (by simp) (fun j hj hne=>by
        show (w.heap.setIfInBounds b (.map es' c'))[j]? = w.heap[j]?
        rw [Array.getElem?_setIfInBounds_ne fun e=>hne (by rw [e])]) (.inl rfl) (set_same hLb)
      obtain⟨C,Tr⟩:=hT2
      have hL:Lof (its.set i (.mp k R true (mput l iv e))) κ=Lof its κ:=by
        apply List.ext_getElem?
        intro j
        by_cases hj:j=i
        · subst hj
          have h3:(its.set j (.mp k R true (mput l iv e)))[j]? = some (.mp k R true (mput l iv e)):=by rw [List.getElem?_set_self hil]
          rw [Lof_get h3 hcc,Lof_get hi hcc]
          rfl
        · unfold Lof
          rw [List.getElem?_zipWith,List.getElem?_zipWith,List.getElem?_set_ne (fun e=>hj e.symm)]
      have key:=S.next (env':=env) (its':=its.set i (.mp k R true (mput l iv e))) (κx:=[]) (X:=[some b]) (fun j=>j=i) (by simp [S.len]) (by simpa using S.sce)
        (by
          unfold scI
          rw [List.length_set,List.all_eq_true]
          intro it hit
          have hs:=S.sci
          unfold scI at hs
          rw [List.all_eq_true] at hs
          rcases List.mem_or_eq_of_mem_set hit with h | h
          · exact hs _ h
          · subst h; rfl)
        (by rw [List.append_nil,hL]; exact C) (by rw [List.append_nil,hL]; exact Tr)
        (fun j it hj hne hit=>by
          rw [List.getElem?_set_ne (fun e=>hne e.symm)] at hit
          refine ⟨hit,noOw how _ (List.mem_of_getElem? hit),fun c b' hc' hb' hm=>?_⟩
          rw [List.mem_singleton] at hm
          have h1:=Lof_get hit hc'
          rw [hb'] at h1
          rw [hm] at h1
          exact S.ctx.sep j i b hne h1 hLb)
        (fun j it c1 hj hit hc1=>by
          rw [List.append_nil] at hc1
          rcases hj with hj | rfl
          · have:=(List.getElem?_eq_some_iff.1 hit).1
            simp only [List.length_set] at this
            omega
          · rw [List.getElem?_set_self hil] at hit
            injection hit with hit
            subst hit
            rw [hcc] at hc1
            injection hc1 with hc1
            subst hc1
            rw [List.append_nil,hL]
            exact⟨b,rfl,es',c',by simp [hlt],Ents.step Tr.h1 Tr.mono _ _ hents⟩)
      rw [List.append_nil] at key
      exact key
  | _=>exact hok.elim
end
theorem e_mget {P:Program} {N n0:Nat} {fx:Fx} {its:List Item} {tt:TT} {env:Env'} {α:Type} {sz:Nat} {R:RT α} [GRep R] (htt:TTOk P tt) {d:Option Nat} {t ty:TypeId} {ps:String} {af:Array Edge} {g:Option (Nat×Bool)} {x y:Operand} {i:Nat} {k:IntKind} {iv:Int} {ow:Bool} {l:List (Int×List α)}
    (hx:evS env x=some (vm i)) (hi:its[i]? = some (.mp k (RSl sz R) ow l)) (hy:evS env y=some (vi k iv)) (hT:TMap tt ty k (.slice none 0 0)=true) :
    Eff P N n0 fx env its ⟨d,.lookup ty x y false,t,ps,af,g⟩ (some (vs its.length)) (its++[.rd sz R (mval [] l iv)]):=fun κ w S a ha=>by
  obtain⟨kt,te,h1,h2,h3,_⟩:=tmap_get htt hT
  obtain⟨cc,hcc,hok⟩:=S.conc hi
  cases cc with
  | m b0=>
    have hx':=evS_den (κ:=κ) hx
    have hy':=evS_den (κ:=κ) hy
    simp only [SV.den,Cell.den,hcc] at hx' hy'
    have main:∃v,(Instr.lookup ty (.map b0) (.int k iv) false).run P w = .ok v w∧RSl sz R (Mu fx.U0 (Lof its κ)) w [v] (mval [] l iv):=by
      have hz0:RSl sz R (Mu fx.U0 (Lof its κ)) w [.slice none 0 0] []:=⟨none,0,rfl,Sl.nil0⟩
      cases ow with
      | true=>
        simp only [OK] at hok
        obtain⟨b,rfl,hm⟩:=hok
        exact run_mget hm h1 h2 (h3 w) hz0
      | false=>
        simp only [OK] at hok
        rcases hok with ⟨rfl,rfl⟩ | ⟨b,rfl,_,hm⟩
        · exact⟨_,run_mget_nil h1 h2 (h3 w),hz0⟩
        · exact run_mget hm h1 h2 (h3 w) hz0
    obtain⟨v,hrun,A,c,hv,hs⟩:=main
    simp only [List.cons.injEq,and_true] at hv
    subst hv
    refine .inl ⟨.slice A (mval [] l iv).length c,w,?_,[.r A (mval [] l iv).length c],fun z hz=>?_,S.more (its2:=[.rd sz R (mval [] l iv)]) (κ2:=[.r A (mval [] l iv).length c]) rfl (one_get (P:=fun (it:Item) (c:Conc)=>own1 it c=none) rfl) rfl (one_get (P:=fun (it:Item) (cx:Conc)=>OK (κ++[.r A (mval [] l iv).length c]) (Mu fx.U0 (Lof its κ)) w it cx) (show OK (κ++[.r A (mval [] l iv).length c]) (Mu fx.U0 (Lof its κ)) w (.rd sz R (mval [] l iv)) (.r A (mval [] l iv).length c) from ⟨rfl,hs⟩))⟩
    · simp only [execOp,ha.ev hx',ha.ev hy',hrun,Sem.run_bind,Result.andThen_ok,Sem.run_pure]
    · injection hz with hz
      subst hz
      simp only [SV.den,Cell.den]
      rw [List.getElem?_append_right (by rw [S.len]; exact Nat.le_refl _),S.len]
      simp
  | _=>cases ow <;> exact hok.elim
end V
end Go.Proofs.YtbdhonofhlpdoaaDoor
namespace Go.Proofs.YtbdhonofhlpdoaaDoor
namespace V
section
variable {P:Program} {N n0:Nat} {fx:Fx} {its its':List Item} {κ:List Conc} {w:World} {tt:TT} {env:Env'} {α:Type} {sz:Nat} {R:RT α} [GRep R] {d:Option Nat} {t:TypeId} {ps:String} {af:Array Edge} {g:Option (Nat×Bool)}
end
theorem EffS.eff {P:Program} {N n0:Nat} {fx:Fx} {env:Env'} {its its':List Item} {o:Oper} (h:EffS P N n0 fx env its o its'):Eff P N n0 fx env its o none its':=fun κ w S a ha=>by
  obtain⟨w',h1,S'⟩:=h κ w S a ha
  exact .inr (.inl ⟨w',h1,[],fun z hz=>(by cases hz),by rwa [List.append_nil]⟩)
end V
end Go.Proofs.YtbdhonofhlpdoaaDoor
