/- Calls. -/
import Derived.Test.YtbdhonofhlpdoaaDoorCall
namespace Go.Proofs.YtbdhonofhlpdoaaDoor
namespace V
def shC (n m:Nat) (js:List Jx):Cell→Option Cell
  | .v x=>some (.v x)
  | .p j o=>match Nat.blt j m,js[j]? with
    | true,some (.g i)=>some (.p i o)
    | true,_=>none
    | false,_=>some (.p (n+(j - m)) o)
  | .s j=>match Nat.blt j m,js[j]? with
    | true,some (.g i)=>some (.s i)
    | true,some (.l i)=>some (.s i)
    | true,_=>none
    | false,_=>some (.s (n+(j - m)))
  | .t j=>match Nat.blt j m,js[j]? with
    | true,some (.g i)=>some (.t i)
    | true,_=>none
    | false,_=>some (.t (n+(j - m)))
  | .m j=>match Nat.blt j m,js[j]? with
    | true,some (.g i)=>some (.m i)
    | true,some (.l i)=>some (.m i)
    | true,_=>none
    | false,_=>some (.m (n+(j - m)))
def shL (n m:Nat) (js:List Jx):List Cell→Option (List Cell)
  | []=>some []
  | c::r=>match shC n m js c,shL n m js r with
    | some c,some r=>some (c::r)
    | _,_=>none
def shU (n m:Nat) (js:List Jx):List (Cell ⊕ List Cell)→Option (List (Cell ⊕ List Cell))
  | []=>some []
  | .inl c::r=>match shC n m js c,shU n m js r with
    | some c,some r=>some (.inl c::r)
    | _,_=>none
  | .inr c::r=>match shL n m js c,shU n m js r with
    | some c,some r=>some (.inr c::r)
    | _,_=>none
def shS (n m:Nat) (js:List Jx):SV→Option SV
  | .c x=>(shC n m js x).map .c
  | .g l=>(shL n m js l).map .g
  | .u l=>(shU n m js l).map .u
  | .f fn l=>(shL n m js l).map (.f fn)
def shI (n m:Nat) (js:List Jx):Item→Option Item
  | .blk T cs=>(shL n m js cs).map (.blk T)
  | .elt _ _ _=>none
  | it=>some it
def shIs (n m:Nat) (js:List Jx):List Item→Option (List Item)
  | []=>some []
  | c::r=>match shI n m js c,shIs n m js r with
    | some c,some r=>some (c::r)
    | _,_=>none
def shO (n m:Nat) (js:List Jx):Item→Option Item
  | @Item.rd _ _ _ _ _=>some .gone
  | @Item.mp _ _ _ _ _ _=>some .gone
  | it=>shI n m js it
def turnG (n m:Nat) (js0:List Jx):List Jx→List Item→List Item→List Item→Option (List Item)
  | [],[],_,its=>some its
  | .g i::js,t::ts,u::us,its=>match t.owned with
    | true=>(match shO n m js0 u with
      | some u'=>turnG n m js0 js ts us (its.set i u')
      | none=>none)
    | false=>turnG n m js0 js ts us its
  | _::js,_::ts,_::us,its=>turnG n m js0 js ts us its
  | _,_,_,_=>none
def backI (js:List Jx) (itsC itsC' its:List Item):Option (List Item):=
  match turnG its.length itsC.length js js itsC itsC' its,shIs its.length itsC.length js (itsC'.drop itsC.length) with
  | some a,some b=>some (a++b)
  | _,_=>none
def Fl {α:Type} (R:RT α):Prop:=∀(U U':Nat→Prop) (w:World) (cs:List Value) (x:α),R U w cs x→R U' w cs x
def FlO:Item→Prop
  | @Item.own _ _ _ R _ _=>Fl R
  | _=>True
def NoRd:Item→Prop
  | @Item.rd _ _ _ _ _=>False
  | @Item.mp _ _ _ _ _ _=>False
  | .elt ..=>False
  | _=>True
def FlatA:Nat→List Item→Prop
  | _,[]=>True
  | m+1,u::us=>FlO u∧FlatA m us
  | 0,u::us=>(FlO u∧NoRd u)∧FlatA 0 us
theorem Fl.int {k:IntKind}:Fl (RInt k):=fun _ _ _ _ _ h=>h
theorem Fl.bool:Fl RBool:=fun _ _ _ _ _ h=>h
def hasL:List Jx→Bool
  | []=>false
  | .l _::_=>true
  | _::js=>hasL js
section
variable {P:Program} {N n0:Nat} {fx:Fx} {its its':List Item} {κ:List Conc} {w:World} {env env':Env'} {js:List Jx} {tt:TT}
theorem shC_den {κx:List Conc} (hl:κ.length=its.length) (hb:bndJ its.length js=true) {c c':Cell} (h:shC its.length js.length js c=some c'):c.den (js.map (cJ κ)++κx)=c'.den (κ++κx):=by
  have old:∀(j i:Nat),(js[j]? = some (.g i)∨js[j]? = some (.l i))→(js.map (cJ κ)++κx)[j]? = (κ++κx)[i]?:=by
    intro j i hj
    have hlt:i<κ.length:=by rw [hl]; exact bndJ_ok hb j i (hj.elim .inl fun h=>.inr (.inl h))
    have hjl:j<js.length:=by rcases hj with h | h <;> exact (List.getElem?_eq_some_iff.1 h).1
    rw [List.getElem?_append_left (by rw [List.length_map]; exact hjl),List.getElem?_append_left hlt,List.getElem?_map]
    rcases hj with hj | hj <;> simp [hj,cJ,List.getElem?_eq_getElem hlt]
  have new:∀j,Nat.blt j js.length=false→(js.map (cJ κ)++κx)[j]? = (κ++κx)[its.length+(j - js.length)]?:=by
    intro j hj
    have hj':js.length≤j:=by
      rcases Nat.lt_or_ge j js.length with h | h
      · have h2:Nat.blt j js.length=true:=by rw [Nat.blt_eq]; exact h
        rw [h2] at hj; cases hj
      · exact h
    rw [List.getElem?_append_right (by rw [List.length_map]; exact hj'),List.getElem?_append_right (by omega),List.length_map,hl]
    congr 1
    omega
  cases c with
  | v x=>simp only [shC,Option.some.injEq] at h; subst h; rfl
  | p j o=>
    simp only [shC] at h
    split at h
    · rename_i i hb hj
      injection h with h; subst h
      simp only [Cell.den,old j i (.inl hj)]
    · cases h
    · rename_i hb
      injection h with h; subst h
      simp only [Cell.den,new j hb]
  | s j=>
    simp only [shC] at h
    split at h
    · rename_i i hb hj
      injection h with h; subst h
      simp only [Cell.den,old j i (.inl hj)]
    · rename_i i hb hj
      injection h with h; subst h
      simp only [Cell.den,old j i (.inr hj)]
    · cases h
    · rename_i hb
      injection h with h; subst h
      simp only [Cell.den,new j hb]
  | t j=>
    simp only [shC] at h
    split at h
    · rename_i i hb hj
      injection h with h; subst h
      simp only [Cell.den,old j i (.inl hj)]
    · cases h
    · rename_i hb
      injection h with h; subst h
      simp only [Cell.den,new j hb]
  | m j=>
    simp only [shC] at h
    split at h
    · rename_i i hb hj
      injection h with h; subst h
      simp only [Cell.den,old j i (.inl hj)]
    · rename_i i hb hj
      injection h with h; subst h
      simp only [Cell.den,old j i (.inr hj)]
    · cases h
    · rename_i hb
      injection h with h; subst h
      simp only [Cell.den,new j hb]
theorem shL_den {κx:List Conc} (hl:κ.length=its.length) (hb:bndJ its.length js=true):∀{l l':List Cell},shL its.length js.length js l=some l'→l.map (Cell.den (js.map (cJ κ)++κx))=l'.map (Cell.den (κ++κx))
  | [],l',h=>by simp only [shL,Option.some.injEq] at h; subst h; rfl
  | c::r,l',h=>by
    simp only [shL] at h
    split at h
    · rename_i c' r' hc hr
      injection h with h; subst h
      simp only [List.map_cons,shC_den hl hb hc,shL_den hl hb hr]
    · cases h
theorem shU_den {κx:List Conc} (hl:κ.length=its.length) (hb:bndJ its.length js=true):∀{l l':List (Cell ⊕ List Cell)},shU its.length js.length js l=some l'→l.map (tel (js.map (cJ κ)++κx))=l'.map (tel (κ++κx))
  | [],l',h=>by simp only [shU,Option.some.injEq] at h; subst h; rfl
  | .inl c::r,l',h=>by
    simp only [shU] at h
    split at h
    · rename_i c' r' hc hr
      injection h with h; subst h
      simp only [List.map_cons,tel,shC_den hl hb hc,shU_den hl hb hr]
    · cases h
  | .inr c::r,l',h=>by
    simp only [shU] at h
    split at h
    · rename_i c' r' hc hr
      injection h with h; subst h
      simp only [List.map_cons,tel,shL_den hl hb hc,shU_den hl hb hr]
    · cases h
theorem shS_den {κx:List Conc} (hl:κ.length=its.length) (hb:bndJ its.length js=true) {x x':SV} (h:shS its.length js.length js x=some x'):x.den (js.map (cJ κ)++κx)=x'.den (κ++κx):=by
  cases x with
  | c y=>
    simp only [shS] at h
    cases hy:shC its.length js.length js y with
    | none=>simp [hy] at h
    | some c=>simp [hy] at h; subst h; exact shC_den hl hb hy
  | g l=>
    simp only [shS] at h
    cases hy:shL its.length js.length js l with
    | none=>simp [hy] at h
    | some c=>simp [hy] at h; subst h; simp only [SV.den,shL_den hl hb hy]
  | u l=>
    simp only [shS] at h
    cases hy:shU its.length js.length js l with
    | none=>simp [hy] at h
    | some c=>simp [hy] at h; subst h; simp only [SV.den,shU_den hl hb hy]
  | f fn l=>
    simp only [shS] at h
    cases hy:shL its.length js.length js l with
    | none=>simp [hy] at h
    | some c=>simp [hy] at h; subst h; simp only [SV.den,shL_den hl hb hy]
theorem turnG_get {n m:Nat} {js0:List Jx}:∀{js:List Jx} {ts us its r:List Item},turnG n m js0 js ts us its=some r→nodupN (ownG js ts)=true→
    r.length=its.length∧(∀i,i∉ownG js ts→r[i]? = its[i]?)∧∀(k i:Nat) (t u:Item),js[k]? = some (.g i)→ts[k]? = some t→t.owned=true→us[k]? = some u→i<its.length→∃u',shO n m js0 u=some u'∧r[i]? = some u'
  | [],[],us,its,r,h,_=>by
    simp only [turnG,Option.some.injEq] at h
    subst h
    exact⟨rfl,fun i _=>rfl,fun k i t u h=>by simp at h⟩
  | j::js,t::ts,u::us,its,r,h,hn=>by
    by_cases ho:∃i,j = .g i∧t.owned=true
    · obtain⟨i,rfl,ho⟩:=ho
      simp only [turnG,ho] at h
      split at h
      · rename_i u' hu
        simp only [ownG,ho,nodupN,Bool.and_eq_true,Bool.not_eq_true'] at hn
        obtain⟨h1,h2,h3⟩:=turnG_get h hn.2
        have hni:i∉ownG js ts:=fun e=>by rw [memN_iff.2 e] at hn; cases hn.1
        refine ⟨by simpa using h1,fun q hq=>?_,fun k q t2 u2 hk ht hto hu2 hql=>?_⟩
        · simp only [ownG,ho,List.mem_cons,not_or] at hq
          rw [h2 q hq.2,List.getElem?_set_ne (fun e=>hq.1 e.symm)]
        · cases k with
          | zero=>
            simp at hk ht hu2
            subst hk; subst ht; subst hu2
            exact⟨u',hu,by rw [h2 i hni,List.getElem?_set_self hql]⟩
          | succ k=>
            simp only [List.getElem?_cons_succ] at hk ht hu2
            exact h3 k q t2 u2 hk ht hto hu2 (by simpa using hql)
      · cases h
    · have hown:ownG (j::js) (t::ts)=ownG js ts:=by
        cases j with
        | g i=>
          have:t.owned=false:=by
            cases hh:t.owned with
            | false=>rfl
            | true=>exact absurd ⟨i,rfl,hh⟩ ho
          simp only [ownG,this]
        | _=>rfl
      have hturn:turnG n m js0 js ts us its=some r:=by
        cases j with
        | g i=>
          have:t.owned=false:=by
            cases hh:t.owned with
            | false=>rfl
            | true=>exact absurd ⟨i,rfl,hh⟩ ho
          simpa only [turnG,this] using h
        | _=>exact h
      rw [hown] at hn ⊢
      obtain⟨h1,h2,h3⟩:=turnG_get hturn hn
      refine ⟨h1,h2,fun k q t2 u2 hk ht hto hu2 hql=>?_⟩
      cases k with
      | zero=>
        simp at hk ht
        subst hk; subst ht
        exact absurd ⟨q,rfl,hto⟩ ho
      | succ k=>
        simp only [List.getElem?_cons_succ] at hk ht hu2
        exact h3 k q t2 u2 hk ht hto hu2 hql
  | [],_::_,us,its,r,h,_=>by cases h
  | j::js,[],us,its,r,h,_=>by cases j <;> cases h
  | j::js,t::ts,[],its,r,h,_=>by cases j <;> cases h
theorem shIs_get {n m:Nat}:∀{l r:List Item},shIs n m js l=some r→r.length=l.length∧∀(k:Nat) (u:Item),r[k]? = some u→∃u0,l[k]? = some u0∧shI n m js u0=some u
  | [],r,h=>by
    simp only [shIs,Option.some.injEq] at h
    subst h
    exact⟨rfl,fun k u h=>by simp at h⟩
  | c::l,r,h=>by
    simp only [shIs] at h
    split at h
    · rename_i c' r' hc hr
      injection h with h; subst h
      obtain⟨h1,h2⟩:=shIs_get hr
      refine ⟨by simp [h1],fun k u hk=>?_⟩
      cases k with
      | zero=>simp at hk; subst hk; exact⟨c,rfl,hc⟩
      | succ k=>
        simp only [List.getElem?_cons_succ] at hk ⊢
        exact h2 k u hk
    · cases h
theorem FlatA_get:∀{m:Nat} {l:List Item},FlatA m l→∀(k:Nat) (u:Item),l[k]? = some u→FlO u∧(m≤k→NoRd u)
  | _,[],_,k,u,hk=>by simp at hk
  | m+1,x::l,h,0,u,hk=>by
    simp at hk; subst hk
    exact⟨h.1,fun h=>by omega⟩
  | m+1,x::l,h,k+1,u,hk=>by
    simp only [List.getElem?_cons_succ] at hk
    have:=FlatA_get h.2 k u hk
    exact⟨this.1,fun h=>this.2 (by omega)⟩
  | 0,x::l,h,0,u,hk=>by
    simp at hk; subst hk
    exact⟨h.1.1,fun _=>h.1.2⟩
  | 0,x::l,h,k+1,u,hk=>by
    simp only [List.getElem?_cons_succ] at hk
    have:=FlatA_get h.2 k u hk
    exact⟨this.1,fun h=>this.2 (by omega)⟩
theorem Own.fl {α:Type} {sz:Nat} {E:TypeId} {R:RT α} [GRep R] (hf:Fl R) {U U':Nat→Prop} {A:Option Addr} {c:Nat} {d:List α} (h:Own sz E R U w A c d):Own sz E R U' w A c d:=by
  obtain⟨xs,hown,he⟩:=h
  have els:∀(l:List α) (es:List Value),Els sz R U w es l→Els sz R U' w es l:=by
    intro l
    induction l with
    | nil=>intro es h; exact h
    | cons x xs ih=>
      intro es h
      obtain⟨e1,e2,h1,h2,h3,h4⟩:=h
      exact⟨e1,e2,h1,h2,hf _ _ _ _ _ h3,ih e2 h4⟩
  exact⟨xs,hown,els _ _ he⟩
theorem sh_ok {κx:List Conc} (hl:κ.length=its.length) (hb:bndJ its.length js=true) {u u':Item} {c:Conc} {U U':Nat→Prop} {w':World} (hs:shI its.length js.length js u=some u') (h:OK (js.map (cJ κ)++κx) U w' u c) (hU:(∀b,U' b→U b)∨(FlO u∧NoRd u)):OK (κ++κx) U' w' u' c∧own1 u' c=own1 u c∧u'.ow=false:=by
  cases u with
  | blk T cs=>
    cases hr:shL its.length js.length js cs with
    | none=>simp [shI,hr] at hs
    | some cs'=>
      simp only [shI,hr,Option.map_some,Option.some.injEq] at hs
      subst hs
      cases c with
      | b n=>
        refine ⟨?_,rfl,rfl⟩
        simp only [OK] at h ⊢
        rw [shL_den hl hb hr] at h
        exact h
      | _=>exact h.elim
  | elt s ow cs=>cases hs
  | own sz E R l=>
    simp only [shI,Option.some.injEq] at hs
    subst hs
    cases c with
    | r A n c=>
      refine ⟨⟨h.1,?_⟩,rfl,rfl⟩
      rcases hU with hU | hU
      · exact h.2.mu hU
      · exact h.2.fl hU.1
    | _=>exact h.elim
  | rd sz R l=>
    simp only [shI,Option.some.injEq] at hs
    subst hs
    cases c with
    | r A n c=>
      refine ⟨⟨h.1,?_⟩,rfl,rfl⟩
      rcases hU with hU | hU
      · exact h.2.mu hU
      · exact hU.2.elim
    | _=>exact h.elim
  | str s=>
    simp only [shI,Option.some.injEq] at hs
    subst hs
    cases c with
    | s x=>exact⟨h,rfl,rfl⟩
    | _=>exact h.elim
  | mp k R ow l=>
    simp only [shI,Option.some.injEq] at hs
    subst hs
    rcases hU with hU | hU
    · cases c with
      | m b=>
        refine ⟨?_,rfl,rfl⟩
        cases ow with
        | true=>
          simp only [OK] at h ⊢
          obtain⟨n,rfl,hm⟩:=h
          exact⟨n,rfl,hm.step rfl (fun _ _ _=>rfl) (fun b _=>hU b)⟩
        | false=>
          simp only [OK] at h ⊢
          rcases h with h | ⟨n,rfl,hn,hm⟩
          · exact .inl h
          · exact .inr ⟨n,rfl,fun q=>hn (hU n q),hm.step rfl (fun _ _ _=>rfl) (fun b _=>hU b)⟩
      | _=>cases ow <;> exact h.elim
    · exact hU.2.elim
  | adr=>
    simp only [shI,Option.some.injEq] at hs
    subst hs
    cases c with
    | b n=>exact⟨trivial,rfl,rfl⟩
    | _=>exact h.elim
  | gone=>
    simp only [shI,Option.some.injEq] at hs
    subst hs
    exact⟨trivial,by cases c <;> rfl,rfl⟩
end
end V
end Go.Proofs.YtbdhonofhlpdoaaDoor
