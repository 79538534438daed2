/- Arrivals, results, calls. -/
import Derived.Test.YtbdhonofhlpdoaaDoorView
namespace Go.Proofs.YtbdhonofhlpdoaaDoor
namespace V
section
variable {P:Program} {N n0:Nat} {fx:Fx} {its its':List Item} {κ:List Conc} {w:World} {env env':Env'} {js:List Jx} {tt:TT} {Kn:Act→World→Prop} {Ke:Nat→Act→World→Prop} {Kr:Act→World→Prop} {ops:Array Oper} {rest:List Oper}
theorem owned_of {t:Item} {c:Conc} {b:Nat} (h:own1 t c=some b):t.owned=true:=by
  cases t with
  | mp k R ow l=>cases ow <;> cases c <;> first | rfl | cases h
  | _=>cases c <;> first | rfl | cases h
theorem view_own {r:List Item} (hs:srcs its js its'=some r) (hr:renIs js its'=some r) (hb:bndJ its.length js=true) (hl:κ.length=its.length) {j b:Nat} (h:(Lof its' (js.map (cJ κ)))[j]? = some (some b)) :
    ∃i t,js[j]? = some (.g i)∧its'[j]? = some t∧t.owned=true∧(Lof its κ)[i]? = some (some b):=by
  obtain⟨t,c,h1,h2,h3⟩:=Lof_inv h
  obtain⟨_,h4⟩:=srcs_get hs hr
  obtain⟨jx,x,h5,h6,h7⟩:=h4 j t h1
  have ho:=owned_of h3
  rw [List.getElem?_map,h5] at h2
  simp only [Option.map_some,Option.some.injEq] at h2
  subst h2
  have notlz:∀i:Nat,frz its[i]? = some x→False:=by
    intro i hf
    cases hi:its[i]? with
    | none=>rw [hi] at hf; cases hf
    | some it=>
      rw [hi] at hf
      cases it with
      | own sz E R l=>
        simp only [frz,Option.some.injEq] at hf
        subst hf
        cases t with
        | blk T cs=>simp only [renI] at h7; cases hr:renL js cs <;> simp [hr] at h7
        | own sz' E' R' l'=>simp only [renI,Option.some.injEq] at h7; cases h7
        | mp k' R' o' l'=>simp only [renI,Option.some.injEq] at h7; cases h7
        | _=>cases ho
      | mp kk R ow l=>
        cases ow with
        | false=>cases hf
        | true=>
        simp only [frz,Option.some.injEq] at hf
        subst hf
        cases t with
        | blk T cs=>simp only [renI] at h7; cases hr:renL js cs <;> simp [hr] at h7
        | own sz' E' R' l'=>simp only [renI,Option.some.injEq] at h7; cases h7
        | mp k' R' o' l'=>
          simp only [renI,Option.some.injEq] at h7
          cases h7
          cases ho
        | _=>cases ho
      | _=>cases hf
  cases jx with
  | g i=>
    have hlt:i<κ.length:=by rw [hl]; exact bndJ_ok hb j i (.inl h5)
    have hci:κ[i]? = some κ[i]:=List.getElem?_eq_getElem hlt
    refine ⟨i,t,h5,h1,ho,?_⟩
    simp only [cJ,hci,Option.getD_some] at h3
    cases t with
    | blk T cs=>
      cases hr:renL js cs with
      | none=>simp [renI,hr] at h7
      | some cs'=>
        simp only [renI,hr,Option.map_some,Option.some.injEq] at h7
        subst h7
        simp only [srcI] at h6
        have hi:its[i]? = some (.blk T cs'):=by
          split at h6
          · cases h6
          · cases h6
          · exact h6
        have:=Lof_get hi hci
        rw [this,← h3]
        cases κ[i] <;> rfl
    | own sz E R l=>
      simp only [renI,Option.some.injEq] at h7
      subst h7
      simp only [srcI] at h6
      have hi:its[i]? = some (.own sz E R l):=by
        split at h6
        · cases h6
        · cases h6
        · exact h6
      have:=Lof_get hi hci
      rw [this,h3]
    | mp kk R ow l=>
      simp only [renI,Option.some.injEq] at h7
      subst h7
      simp only [srcI] at h6
      have hi:its[i]? = some (.mp kk R ow l):=by
        split at h6
        · cases h6
        · cases h6
        · exact h6
      have:=Lof_get hi hci
      rw [this,h3]
    | _=>cases ho
  | l i=>
    cases t with
    | blk T cs=>exact (notlz i h6).elim
    | own sz E R l=>exact (notlz i h6).elim
    | mp kk R ow l=>exact (notlz i h6).elim
    | _=>cases ho
  | z i=>
    cases t with
    | blk T cs=>exact (notlz i h6).elim
    | own sz E R l=>exact (notlz i h6).elim
    | mp kk R ow l=>exact (notlz i h6).elim
    | _=>cases ho
  | n=>
    cases t with
    | blk T cs=>cases h6
    | own sz E R l=>simp [cJ,own1,ob] at h3
    | mp kk R ow l=>cases h6
    | _=>cases ho
  | o=>
    cases t with
    | blk T cs=>cases h6
    | own sz E R l=>cases h6
    | mp kk R ow l=>
      cases ow with
      | true=>cases h6
      | false=>cases ho
    | _=>cases ho
  | k s=>
    cases t with
    | blk T cs=>simp [cJ,own1] at h3
    | own sz E R l=>simp [cJ,own1] at h3
    | mp kk R ow l=>cases ow <;> simp [cJ,own1] at h3
    | _=>cases ho
def vwB (n0 n:Nat) (js:List Jx) (env':Env') (its':List Item) (r:Option Env') (ri:Option (List Item)):Bool:=
  preB n0 js&&(bndJ n js&&(okG js its'&&(scE its'.length env'&&(scI its'.length its'&&(r.isSome&&ri.isSome)))))
theorem St.view (S:St n0 fx env its κ w) (hI:renIs js its'=srcs its js its') (hB:vwB n0 its.length js env' its' (some []) (srcs its js its')=true):St n0 fx env' its' (js.map (cJ κ)) w:=by
  simp only [vwB,Bool.and_eq_true] at hB
  obtain⟨h1,h2,h3,h4,h5,_,h6⟩:=hB
  obtain⟨r,hr⟩:=Option.isSome_iff_exists.1 h6
  rw [hr] at hI
  obtain⟨hlen,hget⟩:=srcs_get hr hI
  simp only [okG,Bool.and_eq_true] at h3
  obtain⟨hnd,hfz⟩:=h3
  unfold preB at h1
  rw [List.all_eq_true] at h1
  have hpre:∀i,i<n0→js[i]? = some (.g i):=by
    intro i hi
    have:=h1 i (List.mem_range.2 hi)
    split at this
    · rename_i k hk
      rw [hk,Nat.eq_of_beq_eq_true this]
    · cases this
  have hview:=fun (j b:Nat) (h:(Lof its' (js.map (cJ κ)))[j]? = some (some b))=>view_own hr hI h2 S.len h
  have hmem:∀b,some b∈Lof its' (js.map (cJ κ))→some b∈Lof its κ:=by
    intro b hb
    obtain⟨j,hj⟩:=List.getElem?_of_mem hb
    obtain⟨i,_,_,_,_,h⟩:=hview j b hj
    exact List.mem_of_getElem? h
  have hz:∀(k i b:Nat),(js[k]? = some (.z i)∨js[k]? = some (.l i))→(Lof its κ)[i]? = some (some b)→some b∉Lof its' (js.map (cJ κ)):=by
    intro k i b hk hi hb
    obtain⟨j,hj⟩:=List.getElem?_of_mem hb
    obtain⟨i',t,g1,g2,g3,g4⟩:=hview j b hj
    have e:i=i':=by
      by_cases e:i=i'
      · exact e
      · exact (S.ctx.sep i i' b e hi g4).elim
    subst e
    rw [List.all_eq_true] at hfz
    have:=hfz i (frzG_mem hk)
    rw [memN_iff.2 (ownG_mem g1 g2 g3)] at this
    cases this
  refine ⟨by rw [List.length_map]; exact hlen,?_,?_,h4,h5,?_,fun j t c h7 h8=>?_⟩
  · rw [← S.pre]
    apply List.ext_getElem?
    intro i
    rw [List.getElem?_take,List.getElem?_take]
    by_cases hi:i<n0
    · rw [if_pos hi,if_pos hi,List.getElem?_map,hpre i hi]
      have:i<κ.length:=Nat.lt_of_lt_of_le hi S.n0
      simp [cJ,List.getElem?_eq_getElem this]
    · rw [if_neg hi,if_neg hi]
  · rw [List.length_map]
    cases n0 with
    | zero=>exact Nat.zero_le _
    | succ m=>exact (List.getElem?_eq_some_iff.1 (hpre m (Nat.lt_succ_self m))).1
  · refine S.ctx.of (fun j=>match js[j]? with | some (.g i)=>i | _=>0) (fun j b h=>?_) (fun j k b hj hk e=>?_)
    · obtain⟨i,t,g1,_,_,g4⟩:=hview j b h
      simp only [g1]
      exact g4
    · obtain⟨i,t,g1,g2,g3,g4⟩:=hview j b hj
      obtain⟨i',t',g1',g2',g3',g4'⟩:=hview k b hk
      simp only [g1,g1'] at e
      subst e
      exact ownG_inj hnd g1 g2 g3 g1' g2' g3'
  · obtain⟨j',x,g1,g2,g3⟩:=hget j t h7
    rw [List.getElem?_map,g1] at h8
    simp only [Option.map_some,Option.some.injEq] at h8
    subst h8
    exact view_ok S h2 hmem hz g1 g2 g3
theorem A.to {a:Act} (h:A N n0 fx env its a w) (js:List Jx) (hI:(renE js env',renIs js its')=(lkEs env env',srcs its js its')) (hB:vwB n0 its.length js env' its' (lkEs env env') (srcs its js its')=true):A N n0 fx env' its' a w:=by
  obtain⟨κ,ha,S⟩:=h
  injection hI with h1 h2
  simp only [vwB,Bool.and_eq_true] at hB
  obtain⟨b1,b2,b3,b4,b5,b6,b7⟩:=hB
  obtain⟨e,he⟩:=Option.isSome_iff_exists.1 b6
  refine ⟨js.map (cJ κ),ha.sub (renE_sub (by rw [S.len]; exact bndJ_ok b2) (h1.trans he) he),S.view h2 ?_⟩
  simp only [vwB,Bool.and_eq_true]
  exact⟨b1,b2,b3,b4,b5,rfl,b7⟩
def enumS (i:Nat):List SV→Env'
  | []=>[]
  | v::vs=>(i,v)::enumS (i+1) vs
theorem denE_enumS {κ:List Conc}:∀(vs:List SV) (i:Nat),denE κ (enumS i vs)=enumFrom i (vs.map (SV.den κ))
  | [],i=>rfl
  | v::vs,i=>by
    have:=denE_enumS (κ:=κ) vs (i+1)
    unfold denE at this ⊢
    simp only [enumS,List.map_cons,enumFrom,this]
def Spec (P:Program) (f:FuncId) (as:List SV) (its:List Item) (rs:SV) (its':List Item):Prop:=
  ∀U0 κ w (gl:Globs U0 (Lof its κ) w),St its.length ⟨U0,Lof its κ,w,κ,gl,fun _ _=>False⟩ (enumS 0 as) its κ w→Calls P f (as.map (SV.den κ)).toArray w fun e w'=>∃κx,e = .returned (rs.den (κ++κx))∧St its.length ⟨U0,Lof its κ,w,κ,gl,fun _ _=>False⟩ [(0,rs)] its' (κ++κx) w'
def RetE (P:Program) (fn:Func) (n0:Nat) (fx:Fx) (rs:SV) (its':List Item):Act→World→Prop:=
  RetK P fn fun e w'=>∃κx,e = .returned (rs.den (fx.κ0++κx))∧St n0 fx [(0,rs)] its' (fx.κ0++κx) w'
theorem Spec.enter {f:FuncId} {fn:Func} {c:Code} {as:List SV} {rs:SV} {N m:Nat} (hf:P.funcs[f]? = some fn) (hb:fn.body=some c) (hN:fn.ntmps=N) (hle:Nat.ble as.length N=true) (hm:its.length=m)
    (h:∀fx,SC P c (RetE P fn m fx rs its') (fun _ _ _=>False) (RetE P fn m fx rs its') N m fx (enumS 0 as) its):Spec P f as its rs its':=fun U0 κ w gl S=>by
  subst hm
  refine calls_enter (px:=fun _ _=>False) hf hb hN (by simpa using hle) (fun _ _ h=>h.elim) ?_
  have:=h ⟨U0,Lof its κ,w,κ,gl,fun _ _=>False⟩ κ w S
  rw [denE_enumS] at this
  exact this
def resS (tt:TT) (env:Env') (its:List Item):List ResultVar→Option (List SV)
  | []=>some []
  | .tmp t::r=>match lkE t env,resS tt env its r with
    | some v,some vs=>some (v::vs)
    | _,_=>none
  | .cell p ty::r=>match lkE p env,lkT ty tt,resS tt env its r with
    | some (.c (.p i 0)),some ti,some vs=>(match its[i]? with
      | some (.blk _ cs)=>(match ti.agg,cs with
        | true,cs=>(match Nat.beq cs.length ti.size with
          | true=>some (.g cs::vs)
          | false=>none)
        | false,[c]=>some (.c c::vs)
        | false,_=>none)
      | _=>none)
    | _,_,_=>none
theorem resS_ok (htt:TTOk P tt) (S:St n0 fx env its κ w):∀(rs:List ResultVar) {vs:List SV},resS tt env its rs=some vs→RVs P N (denE κ env) w rs (vs.map (SV.den κ))
  | [],vs,h=>by simp only [resS,Option.some.injEq] at h; subst h; trivial
  | .tmp t::r,vs,h=>by
    simp only [resS] at h
    split at h
    · rename_i v vs' hv hr
      injection h with h; subst h
      exact⟨rv1_tmp (lkE_den hv),resS_ok htt S r hr⟩
    · cases h
  | .cell p ty::r,vs,h=>by
    simp only [resS] at h
    split at h
    · rename_i i ti vs' hp ht hr
      split at h
      · rename_i T cs hi
        obtain⟨c,hc1,hc2⟩:=S.conc hi
        cases c with
        | b n=>
          have hp':=lkE_den (κ:=κ) hp
          simp only [SV.den,Cell.den,hc1] at hp'
          split at h
          · rename_i ha
            split at h
            · rename_i hl
              injection h with h; subst h
              exact⟨rv1_cell (by rw [← ha]; exact (htt.get ht).agg) (htt.get ht).size hp' hc2 (by simpa using Nat.eq_of_beq_eq_true hl),resS_ok htt S r hr⟩
            · cases h
          · rename_i c ha
            injection h with h; subst h
            exact⟨rv1_cell1 (by rw [← ha]; exact (htt.get ht).agg) hp' hc2,resS_ok htt S r hr⟩
          · cases h
        | _=>exact hc2.elim
      · cases h
    · cases h
def toTel:List SV→Option (List (Cell ⊕ List Cell))
  | []=>some []
  | .c x::r=>(toTel r).map (.inl x :: ·)
  | .g l::r=>(toTel r).map (.inr l :: ·)
  | _::_=>none
def retS:List SV→Option SV
  | [v]=>some v
  | vs=>(toTel vs).map .u
theorem toTel_ok:∀{vs:List SV} {l:List (Cell ⊕ List Cell)},toTel vs=some l→l.map (tel κ)=vs.map (SV.den κ)
  | [],l,h=>by simp only [toTel,Option.some.injEq] at h; subst h; rfl
  | .c x::r,l,h=>by
    simp only [toTel] at h
    cases hr:toTel r with
    | none=>simp [hr] at h
    | some q=>simp [hr] at h; subst h; simp [toTel_ok hr,tel,SV.den]
  | .g x::r,l,h=>by
    simp only [toTel] at h
    cases hr:toTel r with
    | none=>simp [hr] at h
    | some q=>simp [hr] at h; subst h; simp [toTel_ok hr,tel,SV.den]
  | .u _::_,l,h=>by cases h
  | .f _ _::_,l,h=>by cases h
theorem retS_ok {vs:List SV} {v:SV} (h:retS vs=some v):v.den κ=retVal (vs.map (SV.den κ)):=by
  unfold retS at h
  split at h
  · injection h with h; subst h; rfl
  · rename_i hne
    cases hl:toTel vs with
    | none=>simp [hl] at h
    | some l=>
      simp [hl] at h
      subst h
      have:=toTel_ok (κ:=κ) hl
      match vs,hne with
      | [],_=>simp [SV.den,retVal,this]
      | [v],hne=>exact absurd rfl (hne v)
      | a::b::r,_=>simp [SV.den,retVal,this]
theorem A.ret {a:Act} {fn:Func} {rs:SV} (htt:TTOk P tt) (h:A N n0 fx env its a w) (js:List Jx) (hI:((renS js rs,(renS js rs).isSome),renIs js its')=(((resS tt env its fn.results.toList).bind retS,true),srcs its js its')) (hB:vwB n0 its.length js [(0,rs)] its' (some []) (srcs its js its')=true):RetE P fn n0 fx rs its' a w:=by
  obtain⟨κ,ha,S⟩:=h
  injection hI with h1 h2
  injection h1 with h1 h3
  have S':=S.view h2 hB
  simp only [vwB,Bool.and_eq_true] at hB
  obtain⟨b1,b2,b3,b4,b5,b6,b7⟩:=hB
  obtain⟨sv,hsv⟩:=Option.isSome_iff_exists.1 h3
  rw [hsv] at h1
  cases hrs:resS tt env its fn.results.toList with
  | none=>simp [hrs] at h1
  | some vs=>
    simp only [hrs,Option.bind_some] at h1
    have hrun:=run_results (P:=P) (fn:=fn) (rs:=fn.results.toList) (by simp) (resS_ok (N:=N) htt S _ hrs) ha
    have hden:rs.den (js.map (cJ κ))=retVal (vs.map (SV.den κ)):=by
      rw [renS_den (by rw [S.len]; exact bndJ_ok b2) hsv]
      exact retS_ok h1.symm
    refine ⟨ha.defers,_,hrun,(js.map (cJ κ)).drop n0,?_,?_⟩
    · rw [← S'.pre,List.take_append_drop,hden]
    · rw [← S'.pre,List.take_append_drop]
      exact S'
theorem SC.ret {fn:Func} {rs:SV} (htt:TTOk P tt) (js:List Jx) (hI:((renS js rs,(renS js rs).isSome),renIs js its')=(((resS tt env its fn.results.toList).bind retS,true),srcs its js its')) (hB:vwB n0 its.length js [(0,rs)] its' (some []) (srcs its js its')=true):SC P .ret Kn Ke (RetE P fn n0 fx rs its') N n0 fx env its:=fun κ w S=>
  WC.ret fun a ha=>A.ret htt ⟨κ,ha,S⟩ js hI hB
end
end V
end Go.Proofs.YtbdhonofhlpdoaaDoor
