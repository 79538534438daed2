/- Maps of the call's own: made, written; maps read. -/
import Derived.Test.YtbdhonofhlpdoaaDoorGlob
namespace Go.Proofs.YtbdhonofhlpdoaaDoor
namespace V
section
variable {P:Program} {N n0:Nat} {fx:Fx} {its its':List Item} {κ:List Conc} {w:World} {tt:TT} {env:Env'} {α:Type} {R:RT α} [GRep R]
def TMap (tt:TT) (ty:TypeId) (k:IntKind) (z:Value):Bool:=match lkT ty tt with
  | some ⟨.map kt e,_,_,_,_⟩=>(match lkT kt tt,lkT e tt with
    | some ⟨.int k',_,_,_,_⟩,some ⟨_,_,_,some z',_⟩=>decide (k=k')&&(match z,z' with
      | .slice none 0 0,.slice none 0 0=>true
      | _,_=>false)
    | _,_=>false)
  | _=>false
theorem tmap_get (htt:TTOk P tt) {ty:TypeId} {k:IntKind} {z:Value} (h:TMap tt ty k z=true):∃kt e,P.underlying ty=some (.map kt e)∧P.underlying kt=some (.int k)∧(∀w,(zeroValue e).run P w = .ok z w)∧z = .slice none 0 0:=by
  unfold TMap at h
  split at h
  · rename_i kt e _ _ _ _ h1
    split at h
    · rename_i k' _ _ _ _ u _ _ z' _ h2 h3
      rw [Bool.and_eq_true] at h
      obtain⟨hk,hz⟩:=h
      have hk:=of_decide_eq_true hk
      subst hk
      split at hz
      · exact⟨kt,e,(htt.get h1).und,(htt.get h2).und,(htt.get h3).zero _ rfl,rfl⟩
      · cases hz
    · cases h
  · cases h
theorem e_mmake (k:IntKind) (R:RT α) [GRep R] (how:its.any Item.ow=false) {d:Option Nat} {t ty:TypeId} {ps:String} {af:Array Edge} {g:Option (Nat×Bool)}:Eff P N n0 fx env its ⟨d,.makeMap ty none,t,ps,af,g⟩ (some (vm its.length)) (its++[.mp k R true []]):=fun κ w S a ha=>by
  have hC:=S.ctx.alloc (.map #[] 0)
  refine .inl ⟨.map (some w.heap.size),w.alloc (.map #[] 0),?_,[.m (some w.heap.size)],fun x hx=>?_,S.push how (it:=.mp k R true []) (c:=.m (some w.heap.size)) hC.1.rot hC.2.rot rfl ?_⟩
  · have hr:(Instr.makeMap ty none).run P w = .ok (.map (some w.heap.size)) (w.alloc (.map #[] 0)):=rfl
    simp only [execOp,Option.map_none,hr,Sem.run_bind,Result.andThen_ok,Sem.run_pure]
  · injection hx with hx
    subst hx
    simp only [SV.den,Cell.den]
    rw [List.getElem?_append_right (by rw [S.len]; exact Nat.le_refl _),S.len]
    simp
  · exact⟨_,rfl,#[],0,heap_alloc_new w _,rfl⟩
theorem e_mput (htt:TTOk P tt) {d:Option Nat} {t ty:TypeId} {ps:String} {af:Array Edge} {g:Option (Nat×Bool)} {x y q:Operand} {i:Nat} {k:IntKind} {iv:Int} {l:List (Int×α)} {e:α} {z:Value} {c:Cell}
    (hx:evS env x=some (vm i)) (hi:its[i]? = some (.mp k R true l)) (hy:evS env y=some (vi k iv)) (hq:evS env q=some (.c c)) (hc:Clo its R [c] e) (hT:TMap tt ty k z=true) (how:its.any Item.ow=false) :
    Eff P N n0 fx env its ⟨d,.mapUpdate ty x y q,t,ps,af,g⟩ none (its.set i (.mp k R true (mput l iv e))):=fun κ w S a ha=>by
  obtain⟨kt,te,h1,h2,_,_⟩:=tmap_get htt hT
  obtain⟨cc,hcc,hok⟩:=S.conc hi
  cases cc with
  | m b0=>
    simp only [OK] at hok
    obtain⟨b,rfl,hm⟩:=hok
    have hil:i<its.length:=(List.getElem?_eq_some_iff.1 hi).1
    have hLb:(Lof its κ)[i]? = some (some b):=Lof_get hi hcc
    have hr:R (Mu fx.U0 (Lof its κ)) w [c.den κ] e:=hc S
    obtain⟨es',c',hrun,hents⟩:=run_mput (P:=P) (v:=c.den κ) (x:=iv) hm h1 h2 hr
    have hlt:=hm.lt
    have hx':=evS_den (κ:=κ) hx
    have hy':=evS_den (κ:=κ) hy
    have hq':=evS_den (κ:=κ) hq
    simp only [SV.den,Cell.den,hcc] at hx' hy'
    simp only [SV.den] at hq'
    refine .inr (.inl ⟨{ w with heap:=w.heap.setIfInBounds b (.map es' c') },?_,[],⟨fun _ hz=>(by cases hz),?_⟩⟩)
    · simp only [execOp,ha.ev hx',ha.ev hy',ha.ev hq',hrun,Sem.run_bind,Result.andThen_ok,Sem.run_pure]
    · rw [List.append_nil]
      have hT2:=S.ctx.turn (w':={ w with heap:=w.heap.setIfInBounds b (.map es' c') }) (y:=some b) (L':=Lof its κ) hLb rfl rfl rfl (by simp) (fun j hj hne=>by
        show (w.heap.setIfInBounds b (.map es' c'))[j]? = w.heap[j]?
        rw [Array.getElem?_setIfInBounds_ne fun e=>hne (by rw [e])]) (.inl rfl) (set_same hLb)
      obtain⟨C,Tr⟩:=hT2
      have hL:Lof (its.set i (.mp k R true (mput l iv e))) κ=Lof its κ:=by
        apply List.ext_getElem?
        intro j
        by_cases hj:j=i
        · subst hj
          have h3:(its.set j (.mp k R true (mput l iv e)))[j]? = some (.mp k R true (mput l iv e)):=by rw [List.getElem?_set_self hil]
          rw [Lof_get h3 hcc,Lof_get hi hcc]
          rfl
        · unfold Lof
          rw [List.getElem?_zipWith,List.getElem?_zipWith,List.getElem?_set_ne (fun e=>hj e.symm)]
      have key:=S.next (env':=env) (its':=its.set i (.mp k R true (mput l iv e))) (κx:=[]) (X:=[some b]) (fun j=>j=i) (by simp [S.len]) (by simpa using S.sce)
        (by
          unfold scI
          rw [List.length_set,List.all_eq_true]
          intro it hit
          have hs:=S.sci
          unfold scI at hs
          rw [List.all_eq_true] at hs
          rcases List.mem_or_eq_of_mem_set hit with h | h
          · exact hs _ h
          · subst h; rfl)
        (by rw [List.append_nil,hL]; exact C) (by rw [List.append_nil,hL]; exact Tr)
        (fun j it hj hne hit=>by
          rw [List.getElem?_set_ne (fun e=>hne e.symm)] at hit
          refine ⟨hit,noOw how _ (List.mem_of_getElem? hit),fun c b' hc' hb' hm=>?_⟩
          rw [List.mem_singleton] at hm
          have h1:=Lof_get hit hc'
          rw [hb'] at h1
          rw [hm] at h1
          exact S.ctx.sep j i b hne h1 hLb)
        (fun j it c1 hj hit hc1=>by
          rw [List.append_nil] at hc1
          rcases hj with hj | rfl
          · have:=(List.getElem?_eq_some_iff.1 hit).1
            simp only [List.length_set] at this
            omega
          · rw [List.getElem?_set_self hil] at hit
            injection hit with hit
            subst hit
            rw [hcc] at hc1
            injection hc1 with hc1
            subst hc1
            rw [List.append_nil,hL]
            exact⟨b,rfl,es',c',by simp [hlt],Ents.step Tr.h1 Tr.mono _ _ hents⟩)
      rw [List.append_nil] at key
      exact key
  | _=>exact hok.elim
end
theorem e_mget {P:Program} {N n0:Nat} {fx:Fx} {its:List Item} {tt:TT} {env:Env'} {α:Type} {sz:Nat} {R:RT α} [GRep R] (htt:TTOk P tt) {d:Option Nat} {t ty:TypeId} {ps:String} {af:Array Edge} {g:Option (Nat×Bool)} {x y:Operand} {i:Nat} {k:IntKind} {iv:Int} {ow:Bool} {l:List (Int×List α)}
    (hx:evS env x=some (vm i)) (hi:its[i]? = some (.mp k (RSl sz R) ow l)) (hy:evS env y=some (vi k iv)) (hT:TMap tt ty k (.slice none 0 0)=true) :
    Eff P N n0 fx env its ⟨d,.lookup ty x y false,t,ps,af,g⟩ (some (vs its.length)) (its++[.rd sz R (mval [] l iv)]):=fun κ w S a ha=>by
  obtain⟨kt,te,h1,h2,h3,_⟩:=tmap_get htt hT
  obtain⟨cc,hcc,hok⟩:=S.conc hi
  cases cc with
  | m b0=>
    have hx':=evS_den (κ:=κ) hx
    have hy':=evS_den (κ:=κ) hy
    simp only [SV.den,Cell.den,hcc] at hx' hy'
    have main:∃v,(Instr.lookup ty (.map b0) (.int k iv) false).run P w = .ok v w∧RSl sz R (Mu fx.U0 (Lof its κ)) w [v] (mval [] l iv):=by
      have hz0:RSl sz R (Mu fx.U0 (Lof its κ)) w [.slice none 0 0] []:=⟨none,0,rfl,Sl.nil0⟩
      cases ow with
      | true=>
        simp only [OK] at hok
        obtain⟨b,rfl,hm⟩:=hok
        exact run_mget hm h1 h2 (h3 w) hz0
      | false=>
        simp only [OK] at hok
        rcases hok with ⟨rfl,rfl⟩ | ⟨b,rfl,_,hm⟩
        · exact⟨_,run_mget_nil h1 h2 (h3 w),hz0⟩
        · exact run_mget hm h1 h2 (h3 w) hz0
    obtain⟨v,hrun,A,c,hv,hs⟩:=main
    simp only [List.cons.injEq,and_true] at hv
    subst hv
    refine .inl ⟨.slice A (mval [] l iv).length c,w,?_,[.r A (mval [] l iv).length c],fun z hz=>?_,S.more (its2:=[.rd sz R (mval [] l iv)]) (κ2:=[.r A (mval [] l iv).length c]) rfl (one_get (P:=fun (it:Item) (c:Conc)=>own1 it c=none) rfl) rfl (one_get (P:=fun (it:Item) (cx:Conc)=>OK (κ++[.r A (mval [] l iv).length c]) (Mu fx.U0 (Lof its κ)) w it cx) (show OK (κ++[.r A (mval [] l iv).length c]) (Mu fx.U0 (Lof its κ)) w (.rd sz R (mval [] l iv)) (.r A (mval [] l iv).length c) from ⟨rfl,hs⟩))⟩
    · simp only [execOp,ha.ev hx',ha.ev hy',hrun,Sem.run_bind,Result.andThen_ok,Sem.run_pure]
    · injection hz with hz
      subst hz
      simp only [SV.den,Cell.den]
      rw [List.getElem?_append_right (by rw [S.len]; exact Nat.le_refl _),S.len]
      simp
  | _=>cases ow <;> exact hok.elim
end V
end Go.Proofs.YtbdhonofhlpdoaaDoor

namespace Go.Proofs.YtbdhonofhlpdoaaDoor
namespace V
theorem els_nils {α:Type} {sz:Nat} {R:RT α} {U:Nat→Prop} {w:World}:∀n:Nat,Els 1 (RSl sz R) U w (List.replicate n (.slice none 0 0)) (List.replicate n [])
  | 0=>rfl
  | n+1=>⟨[.slice none 0 0],_,rfl,rfl,⟨none,0,rfl,Sl.nil0⟩,els_nils n⟩
section
variable {P:Program} {N n0:Nat} {fx:Fx} {its its':List Item} {κ:List Conc} {w:World} {tt:TT} {env:Env'} {α:Type} {sz:Nat} {R:RT α} [GRep R] {d:Option Nat} {t:TypeId} {ps:String} {af:Array Edge} {g:Option (Nat×Bool)}
theorem e_allocr {T:TypeId} (htt:TTOk P tt) (n:Nat) (sz:Nat) (R:RT α) [GRep R] (hB:(match lkT T tt with
    | some ⟨_,_,_,some z,_⟩=>!its.any Item.ow&&(Nat.ble n 1000000&&(!Nat.beq T BT&&(match allocC tt its (.alloc T) with
      | some (T',cs)=>Nat.beq T T'&&Nat.beq cs.length n&&cs.all fun c=>(match c with
        | .v (.slice none 0 0)=>true
        | _=>false)
      | none=>false)))
    | _=>false)=true):Eff P N n0 fx env its ⟨d,.alloc T,t,ps,af,g⟩ (some (vp its.length 0)) (its++[.own 1 T (RSl sz R) (List.replicate n [])]):=fun κ w S a ha=>by
  split at hB
  · rename_i u ag z0 z bt ht
    simp only [Bool.and_eq_true,Bool.not_eq_true'] at hB
    obtain⟨how,hn,hT,hB⟩:=hB
    have hn:=Nat.le_of_ble_eq_true hn
    split at hB
    · rename_i T' cs hcs
      simp only [Bool.and_eq_true,Nat.beq_eq] at hB
      obtain⟨⟨rfl,hl⟩,hall⟩:=hB
      have hcells:cs=z.cells.toList.map .v:=by
        simp only [allocC,ht,how,Option.some.injEq,Prod.mk.injEq,true_and] at hcs
        exact hcs.symm
      have hrep:z.cells.toList=List.replicate n (.slice none 0 0):=by
        have h1:∀c∈cs,c = .v (.slice none 0 0):=fun c hc=>by
          have:=List.all_eq_true.1 hall c hc
          split at this
          · rfl
          · cases this
        have h2:cs=List.replicate n (.v (.slice none 0 0)):=List.eq_replicate_iff.2 ⟨hl,h1⟩
        rw [hcells] at h2
        apply List.eq_replicate_iff.2
        refine ⟨by simpa using congrArg List.length h2,fun b hb=>?_⟩
        have:=List.eq_replicate_iff.1 h2
        have:=this.2 (.v b) (List.mem_map.2 ⟨b,hb,rfl⟩)
        injection this
      have hz:z.cells=(z.cells.toList).toArray:=by simp
      refine Does.of_runW (rw_alloc ((htt.get ht).zero z rfl) hz S.ctx) ha fun v w' hk=>?_
      obtain⟨b,rfl,hb,C,Tr⟩:=hk
      have hown:Own 1 T (RSl sz R) (Mu fx.U0 (some b::Lof its κ)) w' (some ⟨b,0,none⟩) n (List.replicate n []):=by
        refine own_mk (cur:=z.cells.toList.toArray) (fz:=(0,0)) (.inl rfl) hb (by simp) (by unfold maxLen; omega) (by rw [hrep]; simp) ?_
        rw [hrep]
        simp only [List.length_replicate,Nat.mul_one]
        rw [List.take_of_length_le (by simp)]
        exact els_nils n
      refine ⟨[.r (some ⟨b,0,none⟩) n n],fun x hx=>?_,S.push how (it:=.own 1 T (RSl sz R) (List.replicate n [])) (c:=.r (some ⟨b,0,none⟩) n n) C.rot Tr.rot rfl ⟨by simp,?_⟩⟩
      · injection hx with hx; subst hx
        simp only [SV.den,Cell.den]
        rw [List.getElem?_append_right (by rw [S.len]; exact Nat.le_refl _),S.len]
        simp [Addr.add]
      · exact hown.mu (Mu.weaken fun b h=>by simp [own1,ob] at h ⊢; exact h.symm)
    · cases hB
  · cases hB
theorem e_ixpa {E:TypeId} (htt:TTOk P tt) {ty:TypeId} {x y:Operand} {i n:Nat} {k:IntKind} {iv:Int} {l:List α} {e:α} (hx:evS env x=some (vp i 0)) (hi:its[i]? = some (.own sz E R l)) (hy:evS env y=some (vi k iv)) (he:idxn n l iv=some e)
    (hT:(match lkT ty tt with
      | some ⟨.array n' e',_,_,_,_⟩=>(match lkT e' tt with
        | some te=>Nat.beq n n'&&Nat.beq te.size sz
        | none=>false)
      | _=>false)=true) :
    Eff P N n0 fx env its ⟨d,.indexAddr ty x y,t,ps,af,g⟩ (some (vp i (iv.toNat * sz))) its:=fun κ w S a ha=>by
  obtain⟨h1,he⟩:=idxn_lt he
  obtain⟨h0,_,hxx⟩:=idx_some he
  split at hT
  · rename_i n' e' _ _ _ _ ht
    split at hT
    · rename_i te hte
      simp only [Bool.and_eq_true,Nat.beq_eq] at hT
      obtain⟨rfl,hsz⟩:=hT
      obtain⟨c,hc,hok⟩:=S.conc hi
      cases c with
      | r A m c=>
        obtain⟨hn,ho⟩:=hok
        rcases own_form ho with ⟨rfl,rfl,rfl⟩ | ⟨b,pre,cur,post,fz,rfl,_⟩
        · simp at hxx
        · have hx':=evS_den (κ:=κ) hx
          have hy':=evS_den (κ:=κ) hy
          simp only [SV.den,Cell.den,hc,add_lit,Nat.add_zero] at hx' hy'
          have hrun:(Instr.indexAt ty (.pointer (some ⟨b,pre.length,none⟩)) (.int k iv)).run P w = .ok (.pointer (some ⟨b,pre.length+iv.toNat * sz,none⟩)) w:=by
            simp [Instr.indexAt,Instr.sureAddr,asIntOf,run_underlying (htt.get ht).und,h0,h1,(htt.get hte).size,Addr.add_lit,hsz]
          refine .inl ⟨_,w,?_,[],fun z hz=>(by injection hz with hz; subst hz; rfl),by rw [List.append_nil]; exact S⟩
          simp only [execOp,ha.ev hx',ha.ev hy',Sem.run_bind,hrun,Result.andThen_ok,SV.den,Cell.den,List.append_nil,hc,add_lit]
          rfl
      | _=>exact hok.elim
    · cases hT
  · cases hT
theorem e_stz {E:TypeId} (htt:TTOk P tt) {ty:TypeId} {x y:Operand} {i n:Nat} {cs:List Cell} {l:List (List α)} (hx:evS env x=some (vp i 0)) (hi:its[i]? = some (.own 1 E (RSl sz R) l)) (hy:evS env y=some (.g cs)) (hl:l=List.replicate n [])
    (hB:(Nat.beq cs.length n&&(!its.any Item.ow&&cs.all fun c=>(match c with
      | .v (.slice none 0 0)=>true
      | _=>false)))=true) (hT:(match lkT ty tt with
      | some ti=>Nat.beq ti.size n
      | none=>false)=true) (hn0:Nat.blt 0 n=true) :
    Eff P N n0 fx env its ⟨none,.store ty x y,t,ps,af,g⟩ none (its.set i (.own 1 E (RSl sz R) (List.replicate n []))):=fun κ w S a ha=>by
  simp only [Bool.and_eq_true,Nat.beq_eq,Bool.not_eq_true'] at hB
  obtain⟨hcl,how,hall⟩:=hB
  have hn0:=Nat.le_of_ble_eq_true hn0
  split at hT
  · rename_i ti ht
    simp only [Nat.beq_eq] at hT
    obtain⟨c,hci,hoki⟩:=S.conc hi
    cases c with
    | r A m c=>
      obtain⟨hn,ho⟩:=hoki
      rcases own_form ho with ⟨rfl,_,rfl⟩ | ⟨b,pre,cur,post,fz,rfl,hfz,hg,hle,hm,hsz,he⟩
      · have:=congrArg List.length hl
        simp at this
        omega
      · have hx':=evS_den (κ:=κ) hx
        have hy':=evS_den (κ:=κ) hy
        simp only [SV.den,Cell.den,hci,add_lit,Nat.add_zero] at hx'
        have hvs:cs.map (Cell.den κ)=List.replicate n (Value.slice none 0 0):=by
          refine List.eq_replicate_iff.2 ⟨by simpa using hcl,fun v hv=>?_⟩
          obtain⟨c,hc,rfl⟩:=List.mem_map.1 hv
          have:=List.all_eq_true.1 hall c hc
          split at this
          · rfl
          · cases this
        simp only [SV.den,hvs] at hy'
        have hL:(Lof its κ)[i]? = some (some b):=Lof_get hi hci
        have hfit:0+(List.replicate n (Value.slice none 0 0)).length≤cur.length:=by
          rw [hl] at hle
          simp only [List.length_replicate] at hle ⊢
          omega
        have hst:=run_storeCells_z P b (pre.length+0) E fz (List.replicate n (Value.slice none 0 0)) 0 _ w hg (by simpa using hfz) (by simp only [List.size_toArray,List.length_append]; omega) (fun v hv=>by rw [(List.mem_replicate.1 hv).2]; rfl)
        simp only [Nat.add_zero] at hst
        have hrp:=row_put (pre:=pre) (post:=post) (vs:=List.replicate n (Value.slice none 0 0)) (k:=0) hfit
        rw [Nat.add_zero] at hrp
        rw [hrp] at hst
        obtain⟨k1,k2,k3⟩:=setRow_turnz S.ctx hL hg (cs':=pre++(cur.take 0++List.replicate n (Value.slice none 0 0)++cur.drop (0+(List.replicate n (Value.slice none 0 0)).length))++post)
        have hlen:(cur.take 0++List.replicate n (Value.slice none 0 0)++cur.drop (0+(List.replicate n (Value.slice none 0 0)).length)).length=cur.length:=by
          simp only [List.length_append,List.length_drop,List.take_zero,List.length_nil]
          omega
        have hturn:OwnTurned 1 E (RSl sz R) fx.U0 fx.X0 fx.w0 (Lof its κ) w (some ⟨b,pre.length,none⟩) c (List.replicate n []) (w.setRow b (pre++(cur.take 0++List.replicate n (Value.slice none 0 0)++cur.drop (0+(List.replicate n (Value.slice none 0 0)).length))++post).toArray):=by
          refine ⟨own_mk2 (by rw [row_len hlen]; exact hfz) k1 (by rw [hl] at hle; simpa using hle) hm (by rw [hlen]; exact hsz) ?_,k2,k3⟩
          rw [List.take_zero,List.nil_append,List.length_replicate,Nat.mul_one,List.take_append_of_le_length (by simp),List.take_of_length_le (by simp)]
          exact els_nils n
        refine .inr (.inl ⟨_,?_,[],fun z hz=>(by cases hz),by rw [List.append_nil]; exact ownTurned_st S how hi hci hn (by rw [hl]) hturn⟩)
        have h2:=(htt.get ht).size w
        rw [hT] at h2
        simp only [execOp,ha.ev hx',ha.ev hy',Instr.storeAt,Instr.sureAddr,storeVar,Sem.run_bind,Sem.run_pure,Result.andThen_ok,h2]
        simp [hst,Value.cells]
    | _=>exact hoki.elim
  · cases hT
end
theorem EffS.eff {P:Program} {N n0:Nat} {fx:Fx} {env:Env'} {its its':List Item} {o:Oper} (h:EffS P N n0 fx env its o its'):Eff P N n0 fx env its o none its':=fun κ w S a ha=>by
  obtain⟨w',h1,S'⟩:=h κ w S a ha
  exact .inr (.inl ⟨w',h1,[],fun z hz=>(by cases hz),by rwa [List.append_nil]⟩)
end V
end Go.Proofs.YtbdhonofhlpdoaaDoor
