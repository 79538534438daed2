/- Small steps: rows given up, nil rows, values with evidence. -/
import Derived.Test.YtbgfhaahhdnogaaGreatDrw
namespace Go.Proofs.YtbgfhaahhdnogaaGreat
namespace V
section
variable {P:Program} {N n0:Nat} {fx:Fx} {its its':List Item} {κ:List Conc} {w:World} {env env':Env'} {tt:TT} {ops:Array Oper} {rest:List Oper} {Kn:Act→World→Prop} {Ke:Nat→Act→World→Prop} {Kr:Act→World→Prop}
theorem scE_cons {n t:Nat} {x:SV} (h:scE n env=true) (hx:x.lt n=true):scE n ((t,x)::env)=true:=by
  unfold scE at h ⊢
  rw [List.all_cons,h,hx]
  rfl
theorem pre_kill:Pre n0 fx env its (kl its):=fun κ w S=>⟨[],by rw [List.append_nil]; exact S.kill⟩
section
variable {α:Type} {sz:Nat} {E:TypeId} {R:RT α} [GRep R]
theorem pF {i:Nat} {l:List α} (hi:its[i]? = some (.own sz E R l)):Pre n0 fx env its (its.set i (.rd sz R l)):=fun κ w S=>by
  refine ⟨[],?_⟩
  rw [List.append_nil]
  obtain⟨c,hc,hok⟩:=S.conc hi
  have hil:i<its.length:=(List.getElem?_eq_some_iff.1 hi).1
  have hlen:(Lof its κ).length=its.length:=by simp [Lof,S.len]
  have hL:∀(j b:Nat),(Lof (its.set i (.rd sz R l)) κ)[j]? = some (some b)→j≠i∧(Lof its κ)[j]? = some (some b):=by
    intro j b h
    by_cases e:j=i
    · subst e
      have h1:=Lof_get (its:=its.set j (.rd sz R l)) (by rw [List.getElem?_set_self hil]) hc
      rw [h1] at h
      cases c <;> cases h
    · refine ⟨e,?_⟩
      unfold Lof at h ⊢
      rw [List.getElem?_zipWith] at h ⊢
      rwa [List.getElem?_set_ne (fun h=>e h.symm)] at h
  have hmem:∀b,some b∈Lof (its.set i (.rd sz R l)) κ→some b∈Lof its κ:=by
    intro b hb
    obtain⟨j,hj⟩:=List.getElem?_of_mem hb
    exact List.mem_of_getElem? (hL j b hj).2
  refine ⟨by simp [S.len],S.pre,S.n0,by simpa using S.sce,?_,S.ctx.of id (fun j b h=>(hL j b h).2) (fun _ _ _ _ _ e=>e),fun j it c' h1 h2=>?_⟩
  · unfold scI
    rw [List.length_set,List.all_eq_true]
    intro it hit
    have hs:=S.sci
    unfold scI at hs
    rw [List.all_eq_true] at hs
    rcases List.mem_or_eq_of_mem_set hit with h | h
    · exact hs _ h
    · subst h; rfl
  · have hU:∀b,Mu fx.U0 (Lof (its.set i (.rd sz R l)) κ) b→Mu fx.U0 (Lof its κ) b:=Mu.weaken hmem
    by_cases e:j=i
    · subst e
      rw [List.getElem?_set_self hil] at h1
      injection h1 with h1
      subst h1
      rw [hc] at h2
      injection h2 with h2
      subst h2
      cases c with
      | r A n c=>
        refine ⟨hok.1,hok.2.toSl (fun b hb hM=>?_) hU⟩
        have hLi:=Lof_get hi hc
        simp only [own1,hb] at hLi
        rcases hM with h | h
        · exact (S.ctx.live b (List.mem_of_getElem? hLi)).2.1 h
        · obtain⟨k,hk⟩:=List.getElem?_of_mem h
          obtain⟨h3,h4⟩:=hL k b hk
          exact S.ctx.sep k j b h3 h4 hLi
      | _=>exact hok.elim
    · rw [List.getElem?_set_ne (fun h=>e h.symm)] at h1
      have hsc:it.lt κ.length=true:=by
        have h3:=S.sci
        unfold scI at h3
        rw [List.all_eq_true] at h3
        rw [S.len]
        exact h3 _ (List.mem_of_getElem? h1)
      have:=OK.ext (κx:=[]) hsc hU (S.ok j it c' h1 h2)
      rwa [List.append_nil] at this
end
theorem SL.yes {d:Option Nat} {op:Op} {t:TypeId} {ps:String} {af:Array Edge} {j:Nat} {b x:Bool} {s:Nat} (hj:(ops[j]?).bind (·.dst)=some s) (hs:lkE s env=some (vb x)) (hx:x=b)
    (h:SL P ops (⟨d,op,t,ps,af,none⟩::rest) Kn N n0 fx env its):SL P ops (⟨d,op,t,ps,af,some (j,b)⟩::rest) Kn N n0 fx env its:=fun κ w S=>WL.yes hj (by have:=lkE_den (κ:=κ) hs; simpa [SV.den,Cell.den] using this) hx (h κ w S)
theorem SL.no {d:Nat} {op:Op} {t:TypeId} {ps:String} {af:Array Edge} {j:Nat} {b x:Bool} {s:Nat} (hj:(ops[j]?).bind (·.dst)=some s) (hs:lkE s env=some (vb x)) (hx:x = !b) (hd:Nat.blt d N=true)
    (h:SL P ops rest Kn N n0 fx ((d,.u [])::env) its):SL P ops (⟨some d,op,t,ps,af,some (j,b)⟩::rest) Kn N n0 fx env its:=fun κ w S=>WL.no hj (by have:=lkE_den (κ:=κ) hs; simpa [SV.den,Cell.den] using this) hx hd (h κ w (S.env (scE_cons S.sce rfl)))
theorem SL.noU {d:Nat} {op:Op} {t:TypeId} {ps:String} {af:Array Edge} {j:Nat} {b:Bool} {s:Nat} (hj:(ops[j]?).bind (·.dst)=some s) (hs:lkE s env=some (.u [])) (hd:Nat.blt d N=true)
    (h:SL P ops rest Kn N n0 fx ((d,.u [])::env) its):SL P ops (⟨some d,op,t,ps,af,some (j,b)⟩::rest) Kn N n0 fx env its:=fun κ w S=>WL.noU hj (lkE_den (κ:=κ) hs) hd (h κ w (S.env (scE_cons S.sce rfl)))
theorem SL.pickt {d:Nat} {c x y:Operand} {t:TypeId} {ps:String} {af:Array Edge} {b:Bool} {v:SV} (hc:evS env c=some (vb b)) (hb:b=true) (hx:evS env x=some v) (hd:(Nat.blt d N)=true)
    (h:SL P ops rest Kn N n0 fx ((d,v)::env) its):SL P ops (⟨some d,.pick c x y,t,ps,af,none⟩::rest) Kn N n0 fx env its:=fun κ w S=>WL.val (rv_pick_t (eD hc) hb (eD hx)) hd (h κ w (S.env (scE_cons S.sce (evS_lt S.sce hx))))
theorem SL.pickf {d:Nat} {c x y:Operand} {t:TypeId} {ps:String} {af:Array Edge} {b:Bool} {v:SV} (hc:evS env c=some (vb b)) (hb:b=false) (hy:evS env y=some v) (hd:(Nat.blt d N)=true)
    (h:SL P ops rest Kn N n0 fx ((d,v)::env) its):SL P ops (⟨some d,.pick c x y,t,ps,af,none⟩::rest) Kn N n0 fx env its:=fun κ w S=>WL.val (rv_pick_f (eD hc) hb (eD hy)) hd (h κ w (S.env (scE_cons S.sce (evS_lt S.sce hy))))
theorem A.at {a:Act} {js:List Jx} (h:A N n0 fx env its a w) (e:(renE js env',renIs js its',vwB n0 its.length js env' its' (lkEs env env') (srcs its js its'))=(lkEs env env',srcs its js its',true)):A N n0 fx env' its' a w:=by
  injection e with h1 e
  injection e with h2 h3
  exact h.to js (by rw [h1,h2]) h3
theorem SC.mid {c:Code} (J:Act→World→Prop) (h:SC P c J Ke Kr N n0 fx env its) (h2:∀a w,J a w→Kn a w):SC P c Kn Ke Kr N n0 fx env its:=fun κ w S a ha=>
  wp_mono (h κ w S a ha) fun e a w hq=>by
    cases e
    case normal=>exact h2 a w hq
    all_goals exact hq
theorem A.re {a:Act} {fn:Func} {rs:SV} {js:List Jx} (htt:TTOk P tt) (h:A N n0 fx env its a w) (e:((renS js rs,(renS js rs).isSome),renIs js its',vwB n0 its.length js [(0,rs)] its' (some []) (srcs its js its'))=(((resS tt env its fn.results.toList).bind retS,true),srcs its js its',true)):RetE P fn n0 fx rs its' a w:=by
  injection e with h1 e
  injection e with h2 h3
  exact A.ret htt h js (by rw [h1,h2]) h3
theorem SC.re {fn:Func} {rs:SV} {js:List Jx} (htt:TTOk P tt) (e:((renS js rs,(renS js rs).isSome),renIs js its',vwB n0 its.length js [(0,rs)] its' (some []) (srcs its js its'))=(((resS tt env its fn.results.toList).bind retS,true),srcs its js its',true)):SC P .ret Kn Ke (RetE P fn n0 fx rs its') N n0 fx env its:=fun κ w S=>
  WC.ret fun a ha=>A.re htt ⟨κ,ha,S⟩ e
theorem SC.loop {c:Code} (G:Nat→Act→World→Prop) (n1:Nat) (h0:∀a w,A N n0 fx env its a w→G n1 a w) (round:∀n a w,G n a w→wp3 P fx.px c (fun a w=>∃m,m<n∧G m a w) Ke Kr a w):SC P (.loop c) Kn Ke Kr N n0 fx env its:=fun κ w S=>
  WC.loop G n1 (fun a ha=>h0 a w ⟨κ,ha,S⟩) round
theorem e_c {f:FuncId} {o:Oper} {asC:List SV} {itsC itsC':List Item} {rsC:SV} (hc:∀args w,(callFunc f args).run P w = .ok (.enter f args) w) (spec:Spec P f asC itsC rsC itsC') (js:List Jx) (as:List SV) (v:SV)
    (e:(((calE env o.op,renIs js itsC),shS its.length itsC.length js rsC),renSs js asC,cB its js asC itsC,cB2 (backI js itsC itsC' its) v)=(((some (f,as),srcs its js itsC),some v),some as,true,true)) (hF:hasL js=false∨FlatA itsC.length itsC') :
    Eff P N n0 fx env its o (some v) ((backI js itsC itsC' its).getD []):=by
  injection e with h1 e
  injection e with h2 e
  injection e with h3 h4
  exact e_call hc spec js v (by rw [h1,h2]; rfl) h2 h3 h4 hF
end
end V
end Go.Proofs.YtbgfhaahhdnogaaGreat
