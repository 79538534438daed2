/- One description from another: arrivals at a cut, results. -/
import Derived.Test.YtbgfhaahhdnogaaGreatEff
namespace Go.Proofs.YtbgfhaahhdnogaaGreat
namespace V
inductive Jx where
  | g (i:Nat)
  | l (i:Nat)
  | z (i:Nat)
  | n
  | o
  | k (s:ByteArray)
def renC (js:List Jx):Cell→Option Cell
  | .v x=>some (.v x)
  | .p j o=>match js[j]? with
    | some (.g i)=>some (.p i o)
    | _=>none
  | .s j=>match js[j]? with
    | some (.g i)=>some (.s i)
    | some (.l i)=>some (.s i)
    | some (.z i)=>some (.s i)
    | some .n=>some nl
    | _=>none
  | .t j=>match js[j]? with
    | some (.g i)=>some (.t i)
    | some (.k s)=>some (.v (.string s))
    | _=>none
  | .m j=>match js[j]? with
    | some (.g i)=>some (.m i)
    | some (.l i)=>some (.m i)
    | some (.z i)=>some (.m i)
    | some .o=>some (.v (.map none))
    | _=>none
  | .w fn j o=>match js[j]? with
    | some (.g i)=>some (.w fn i o)
    | _=>none
def renL (js:List Jx):List Cell→Option (List Cell)
  | []=>some []
  | c::r=>match renC js c,renL js r with
    | some c,some r=>some (c::r)
    | _,_=>none
def renU (js:List Jx):List (Cell ⊕ List Cell)→Option (List (Cell ⊕ List Cell))
  | []=>some []
  | .inl c::r=>match renC js c,renU js r with
    | some c,some r=>some (.inl c::r)
    | _,_=>none
  | .inr c::r=>match renL js c,renU js r with
    | some c,some r=>some (.inr c::r)
    | _,_=>none
def renS (js:List Jx):SV→Option SV
  | .c x=>(renC js x).map .c
  | .g l=>(renL js l).map .g
  | .u l=>(renU js l).map .u
  | .f fn l=>(renL js l).map (.f fn)
def renE (js:List Jx):Env'→Option Env'
  | []=>some []
  | (t,x)::r=>match renS js x,renE js r with
    | some x,some r=>some ((t,x)::r)
    | _,_=>none
def lkEs (env:Env'):Env'→Option Env'
  | []=>some []
  | (t,_)::r=>match lkE t env,lkEs env r with
    | some x,some r=>some ((t,x)::r)
    | _,_=>none
def renM (js:List Jx):List (Int×Cell)→Option (List (Int×Cell))
  | []=>some []
  | (x,c)::r=>match renC js c,renM js r with
    | some c,some r=>some ((x,c)::r)
    | _,_=>none
def renI (js:List Jx):Item→Option Item
  | .blk T cs=>(renL js cs).map (.blk T)
  | .lm k l=>(renM js l).map (.lm k)
  | .elt none _ cs=>(renL js cs).map (.elt none false)
  | .elt (some _) _ _=>none
  | it=>some it
def renIs (js:List Jx):List Item→Option (List Item)
  | []=>some []
  | c::r=>match renI js c,renIs js r with
    | some c,some r=>some (c::r)
    | _,_=>none
def frz:Option Item→Option Item
  | some (@Item.own _ sz _ R _ l)=>some (.rd sz R l)
  | some (@Item.mp _ k R _ true l)=>some (.mp k R false l)
  | _=>none
def srcI (its:List Item):Jx→Item→Option Item
  | _,.gone=>some .gone
  | .g i,_=>match its[i]? with
    | some (.elt _ false cs)=>some (.elt none false cs)
    | some (.elt _ true _)=>none
    | o=>o
  | .l i,_=>frz its[i]?
  | .z i,_=>frz its[i]?
  | .n,@Item.own _ sz E R _ _=>some (.own sz E R [])
  | .n,@Item.rd _ sz R _ _=>some (.rd sz R [])
  | .o,@Item.mp _ k R _ false _=>some (.mp k R false [])
  | .k s,_=>some (.str (strOf s))
  | _,_=>none
def srcs (its:List Item):List Jx→List Item→Option (List Item)
  | [],[]=>some []
  | j::js,t::ts=>match srcI its j t,srcs its js ts with
    | some c,some r=>some (c::r)
    | _,_=>none
  | _,_=>none
def Item.owned:Item→Bool
  | .blk ..=>true
  | @Item.own _ _ _ _ _ _=>true
  | @Item.mp _ _ _ _ true _=>true
  | .lm ..=>true
  | _=>false
def ownG:List Jx→List Item→List Nat
  | .g i::js,t::ts=>match t.owned with
    | true=>i::ownG js ts
    | false=>ownG js ts
  | _::js,_::ts=>ownG js ts
  | _,_=>[]
def memN (i:Nat):List Nat→Bool
  | []=>false
  | j::l=>Nat.beq i j||memN i l
def nodupN:List Nat→Bool
  | []=>true
  | j::l=>!memN j l&&nodupN l
def frzG:List Jx→List Nat
  | .z i::js=>i::frzG js
  | .l i::js=>i::frzG js
  | _::js=>frzG js
  | []=>[]
def okG (js:List Jx) (ts:List Item):Bool:=nodupN (ownG js ts)&&(frzG js).all fun i=>!memN i (ownG js ts)
def preB (n0:Nat) (js:List Jx):Bool:=(List.range n0).all fun i=>match js[i]? with
  | some (.g k)=>Nat.beq k i
  | _=>false
def cJ (κ:List Conc):Jx→Conc
  | .g i=>κ[i]?.getD .z
  | .l i=>κ[i]?.getD .z
  | .z i=>κ[i]?.getD .z
  | .n=>.r none 0 0
  | .o=>.m none
  | .k s=>.s s
theorem memN_iff {i:Nat}:∀{l:List Nat},memN i l=true↔i∈l
  | []=>by simp [memN]
  | j::l=>by simp [memN,memN_iff (l:=l),Nat.beq_eq]
theorem ownG_mem {i:Nat}:∀{js:List Jx} {ts:List Item} {k:Nat} {t:Item},js[k]? = some (.g i)→ts[k]? = some t→t.owned=true→i∈ownG js ts
  | [],ts,k,t,h,_,_=>by simp at h
  | j::js,[],k,t,_,h,_=>by simp at h
  | j::js,t0::ts,0,t,h1,h2,h3=>by
    simp at h1 h2
    subst h1; subst h2
    simp [ownG,h3]
  | j::js,t0::ts,k+1,t,h1,h2,h3=>by
    simp at h1 h2
    have ih:=ownG_mem h1 h2 h3
    cases j with
    | g q=>simp only [ownG]; split <;> simp [ih]
    | _=>exact ih
theorem ownG_inj {i:Nat}:∀{js:List Jx} {ts:List Item} {k m:Nat} {t u:Item},nodupN (ownG js ts)=true→js[k]? = some (.g i)→ts[k]? = some t→t.owned=true→js[m]? = some (.g i)→ts[m]? = some u→u.owned=true→k=m
  | [],ts,k,m,t,u,_,h,_,_,_,_,_=>by simp at h
  | j::js,[],k,m,t,u,_,_,h,_,_,_,_=>by simp at h
  | j::js,t0::ts,0,0,t,u,_,_,_,_,_,_,_=>rfl
  | j::js,t0::ts,k+1,m+1,t,u,hn,h1,h2,h3,h4,h5,h6=>by
    simp at h1 h2 h4 h5
    have hn':nodupN (ownG js ts)=true:=by
      cases j with
      | g q=>
        simp only [ownG] at hn
        split at hn
        · simp [nodupN] at hn; exact hn.2
        · exact hn
      | _=>exact hn
    rw [ownG_inj hn' h1 h2 h3 h4 h5 h6]
  | j::js,t0::ts,0,m+1,t,u,hn,h1,h2,h3,h4,h5,h6=>by
    simp at h1 h2 h4 h5
    subst h1; subst h2
    have:=ownG_mem h4 h5 h6
    simp only [ownG,h3,nodupN,Bool.and_eq_true,Bool.not_eq_true'] at hn
    rw [memN_iff.2 this] at hn
    cases hn.1
  | j::js,t0::ts,k+1,0,t,u,hn,h1,h2,h3,h4,h5,h6=>by
    simp at h1 h2 h4 h5
    subst h4; subst h5
    have:=ownG_mem h1 h2 h3
    simp only [ownG,h6,nodupN,Bool.and_eq_true,Bool.not_eq_true'] at hn
    rw [memN_iff.2 this] at hn
    cases hn.1
theorem frzG_mem {i:Nat}:∀{js:List Jx} {k:Nat},(js[k]? = some (.z i)∨js[k]? = some (.l i))→i∈frzG js
  | [],k,h=>by simp at h
  | j::js,0,h=>by
    simp at h
    rcases h with rfl | rfl <;> simp [frzG]
  | j::js,k+1,h=>by
    simp at h
    have ih:=frzG_mem h
    cases j <;> simp [frzG,ih]
section
variable {N n0:Nat} {fx:Fx} {its its':List Item} {κ:List Conc} {w:World} {env env':Env'} {js:List Jx}
theorem renC_den (hb:∀(j i:Nat),js[j]? = some (.g i)∨js[j]? = some (.l i)∨js[j]? = some (.z i)→i<κ.length) {c c':Cell} (h:renC js c=some c'):c.den (js.map (cJ κ))=c'.den κ:=by
  have get:∀(j i:Nat),(js[j]? = some (.g i)∨js[j]? = some (.l i)∨js[j]? = some (.z i))→(js.map (cJ κ))[j]? = κ[i]?:=by
    intro j i hj
    have hlt:=hb j i hj
    rw [List.getElem?_map]
    rcases hj with hj | hj | hj <;> simp [hj,cJ,List.getElem?_eq_getElem hlt]
  cases c with
  | v x=>simp only [renC,Option.some.injEq] at h; subst h; rfl
  | p j o=>
    simp only [renC] at h
    split at h
    · rename_i i hj
      injection h with h; subst h
      simp only [Cell.den,get j i (.inl hj)]
    · cases h
  | w fn j o=>
    simp only [renC] at h
    split at h
    · rename_i i hj
      injection h with h; subst h
      simp only [Cell.den,get j i (.inl hj)]
    · cases h
  | s j=>
    simp only [renC] at h
    split at h
    · rename_i i hj
      injection h with h; subst h
      simp only [Cell.den,get j i (.inl hj)]
    · rename_i i hj
      injection h with h; subst h
      simp only [Cell.den,get j i (.inr (.inl hj))]
    · rename_i i hj
      injection h with h; subst h
      simp only [Cell.den,get j i (.inr (.inr hj))]
    · rename_i hj
      injection h with h; subst h
      simp [Cell.den,hj,cJ]
    · cases h
  | t j=>
    simp only [renC] at h
    split at h
    · rename_i i hj
      injection h with h; subst h
      simp only [Cell.den,get j i (.inl hj)]
    · rename_i s hj
      injection h with h; subst h
      simp [Cell.den,hj,cJ]
    · cases h
  | m j=>
    simp only [renC] at h
    split at h
    · rename_i i hj
      injection h with h; subst h
      simp only [Cell.den,get j i (.inl hj)]
    · rename_i i hj
      injection h with h; subst h
      simp only [Cell.den,get j i (.inr (.inl hj))]
    · rename_i i hj
      injection h with h; subst h
      simp only [Cell.den,get j i (.inr (.inr hj))]
    · rename_i hj
      injection h with h; subst h
      simp [Cell.den,hj,cJ]
    · cases h
theorem renL_den (hb:∀(j i:Nat),js[j]? = some (.g i)∨js[j]? = some (.l i)∨js[j]? = some (.z i)→i<κ.length):∀{l l':List Cell},renL js l=some l'→l.map (Cell.den (js.map (cJ κ)))=l'.map (Cell.den κ)
  | [],l',h=>by simp only [renL,Option.some.injEq] at h; subst h; rfl
  | c::r,l',h=>by
    simp only [renL] at h
    split at h
    · rename_i c' r' hc hr
      injection h with h; subst h
      simp only [List.map_cons,renC_den hb hc,renL_den hb hr]
    · cases h
theorem renM_den (hb:∀(j i:Nat),js[j]? = some (.g i)∨js[j]? = some (.l i)∨js[j]? = some (.z i)→i<κ.length):∀{l l':List (Int×Cell)},renM js l=some l'→(l.map fun p=>(p.1,p.2.den (js.map (cJ κ))))=l'.map fun p=>(p.1,p.2.den κ)
  | [],l',h=>by simp only [renM,Option.some.injEq] at h; subst h; rfl
  | (x,c)::r,l',h=>by
    simp only [renM] at h
    split at h
    · rename_i c' r' hc hr
      injection h with h; subst h
      simp only [List.map_cons,renC_den hb hc,renM_den hb hr]
    · cases h
theorem renU_den (hb:∀(j i:Nat),js[j]? = some (.g i)∨js[j]? = some (.l i)∨js[j]? = some (.z i)→i<κ.length):∀{l l':List (Cell ⊕ List Cell)},renU js l=some l'→l.map (tel (js.map (cJ κ)))=l'.map (tel κ)
  | [],l',h=>by simp only [renU,Option.some.injEq] at h; subst h; rfl
  | .inl c::r,l',h=>by
    simp only [renU] at h
    split at h
    · rename_i c' r' hc hr
      injection h with h; subst h
      simp only [List.map_cons,tel,renC_den hb hc,renU_den hb hr]
    · cases h
  | .inr c::r,l',h=>by
    simp only [renU] at h
    split at h
    · rename_i c' r' hc hr
      injection h with h; subst h
      simp only [List.map_cons,tel,renL_den hb hc,renU_den hb hr]
    · cases h
theorem renS_den (hb:∀(j i:Nat),js[j]? = some (.g i)∨js[j]? = some (.l i)∨js[j]? = some (.z i)→i<κ.length) {x x':SV} (h:renS js x=some x'):x.den (js.map (cJ κ))=x'.den κ:=by
  cases x with
  | c y=>
    simp only [renS] at h
    cases hy:renC js y with
    | none=>simp [hy] at h
    | some c=>simp [hy] at h; subst h; exact renC_den hb hy
  | g l=>
    simp only [renS] at h
    cases hy:renL js l with
    | none=>simp [hy] at h
    | some c=>simp [hy] at h; subst h; simp only [SV.den,renL_den hb hy]
  | u l=>
    simp only [renS] at h
    cases hy:renU js l with
    | none=>simp [hy] at h
    | some c=>simp [hy] at h; subst h; simp only [SV.den,renU_den hb hy]
  | f fn l=>
    simp only [renS] at h
    cases hy:renL js l with
    | none=>simp [hy] at h
    | some c=>simp [hy] at h; subst h; simp only [SV.den,renL_den hb hy]
theorem renE_sub (hb:∀(j i:Nat),js[j]? = some (.g i)∨js[j]? = some (.l i)∨js[j]? = some (.z i)→i<κ.length):∀{e e':Env'},renE js e=some e'→lkEs env e=some e'→Sub (denE κ env) (denE (js.map (cJ κ)) e)
  | [],e',h,_=>trivial
  | (t,x)::r,e',h,h2=>by
    simp only [renE] at h
    simp only [lkEs] at h2
    split at h
    · rename_i x1 r1 hx hr
      injection h with h; subst h
      split at h2
      · rename_i x2 r2 hx2 hr2
        injection h2 with h2
        injection h2 with h3 h4
        injection h3 with _ h3
        subst h3; subst h4
        refine ⟨?_,renE_sub hb hr hr2⟩
        show lk t (denE κ env)=some (x.den (js.map (cJ κ)))
        rw [renS_den hb hx]
        exact lkE_den hx2
      · cases h2
    · cases h
theorem srcs_get {js':List Jx}:∀{js:List Jx} {ts r:List Item},srcs its js ts=some r→renIs js' ts=some r→js.length=ts.length∧∀(k:Nat) (t:Item),ts[k]? = some t→∃j x,js[k]? = some j∧srcI its j t=some x∧renI js' t=some x
  | [],[],r,h,h2=>⟨rfl,fun k t h=>by simp at h⟩
  | j::js,t::ts,r,h,h2=>by
    simp only [srcs] at h
    simp only [renIs] at h2
    split at h
    · rename_i c r1 hc hr
      injection h with h; subst h
      split at h2
      · rename_i c2 r2 hc2 hr2
        injection h2 with h2
        injection h2 with h3 h4
        subst h3; subst h4
        obtain⟨h5,h6⟩:=srcs_get hr hr2
        refine ⟨by simp [h5],fun k t' hk=>?_⟩
        cases k with
        | zero=>simp at hk; subst hk; exact⟨j,c2,rfl,hc,hc2⟩
        | succ k=>
          simp only [List.getElem?_cons_succ] at hk ⊢
          exact h6 k t' hk
      · cases h2
    · cases h
  | [],_::_,r,h,_=>by cases h
  | _::_,[],r,h,_=>by cases h
def bndJ (n:Nat) (js:List Jx):Bool:=js.all fun
  | .g i=>Nat.blt i n
  | .l i=>Nat.blt i n
  | .z i=>Nat.blt i n
  | _=>true
theorem bndJ_ok {n:Nat} (h:bndJ n js=true):∀(j i:Nat),js[j]? = some (.g i)∨js[j]? = some (.l i)∨js[j]? = some (.z i)→i<n:=by
  intro j i hj
  unfold bndJ at h
  rw [List.all_eq_true] at h
  rcases hj with hj | hj | hj <;> (have:=h _ (List.mem_of_getElem? hj); simpa [Nat.blt_eq] using this)
theorem view_ok (S:St n0 fx env its κ w) (hb:bndJ its.length js=true) {L':List (Option Nat)} (hL:∀b,some b∈L'→some b∈Lof its κ) (hz:∀(k i b:Nat),(js[k]? = some (.z i)∨js[k]? = some (.l i))→(Lof its κ)[i]? = some (some b)→some b∉L') {k:Nat} {j:Jx} {t x:Item} (hj:js[k]? = some j) (h1:srcI its j t=some x) (h2:renI js t=some x) :
    OK (js.map (cJ κ)) (Mu fx.U0 L') w t (cJ κ j):=by
  have hb':∀(j i:Nat),js[j]? = some (.g i)∨js[j]? = some (.l i)∨js[j]? = some (.z i)→i<κ.length:=by rw [S.len]; exact bndJ_ok hb
  have hU:∀b,Mu fx.U0 L' b→Mu fx.U0 (Lof its κ) b:=Mu.weaken hL
  have key:∀i,j = .l i∨j = .z i→frz its[i]? = some x→OK (js.map (cJ κ)) (Mu fx.U0 L') w t (cJ κ j):=by
    intro i hji hf
    have hc:cJ κ j=κ[i]?.getD .z:=by rcases hji with rfl | rfl <;> rfl
    have hjk:js[k]? = some (.z i)∨js[k]? = some (.l i):=by rcases hji with rfl | rfl; exact .inr hj; exact .inl hj
    cases hi:its[i]? with
    | none=>rw [hi] at hf; cases hf
    | some it=>
      rw [hi] at hf
      cases it with
      | own sz E R l=>
        simp only [frz,Option.some.injEq] at hf
        subst hf
        obtain⟨c,hc1,hc2⟩:=S.conc hi
        rw [hc,hc1]
        cases t with
        | rd sz' R' l'=>
          simp only [renI,Option.some.injEq] at h2
          cases h2
          cases c with
          | r A n c=>
            refine ⟨hc2.1,hc2.2.toSl (fun b hb hM=>?_) hU⟩
            have hLi:=Lof_get hi hc1
            simp only [own1,hb] at hLi
            rcases hM with h | h
            · exact (S.ctx.live b (List.mem_of_getElem? hLi)).2.1 h
            · exact hz k i b hjk hLi h
          | _=>exact hc2.elim
        | blk T cs=>simp only [renI] at h2; cases hr:renL js cs <;> simp [hr] at h2
        | lm k3 l3=>simp only [renI] at h2; cases hr:renM js l3 <;> simp [hr] at h2
        | elt s ow cs=>
          cases s with
          | none=>simp only [renI] at h2; cases hr:renL js cs <;> simp [hr] at h2
          | some q=>cases h2
        | own sz' E' R' l'=>simp only [renI,Option.some.injEq] at h2; cases h2
        | str s=>simp only [renI,Option.some.injEq] at h2; cases h2
        | mp k' R' o' l'=>simp only [renI,Option.some.injEq] at h2; cases h2
        | adr=>simp only [renI,Option.some.injEq] at h2; cases h2
        | gone=>simp only [renI,Option.some.injEq] at h2; cases h2
      | mp kk R ow l=>
        cases ow with
        | false=>cases hf
        | true=>
        simp only [frz,Option.some.injEq] at hf
        subst hf
        obtain⟨c,hc1,hc2⟩:=S.conc hi
        rw [hc,hc1]
        cases t with
        | mp k' R' o' l'=>
          simp only [renI,Option.some.injEq] at h2
          cases h2
          cases c with
          | m b0=>
            simp only [OK] at hc2
            obtain⟨n,rfl,hm⟩:=hc2
            refine .inr ⟨n,rfl,fun hM=>?_,hm.step rfl (fun _ _ _=>rfl) (fun b _=>hU b)⟩
            have hLi:=Lof_get hi hc1
            simp only [own1] at hLi
            rcases hM with h | h
            · exact (S.ctx.live n (List.mem_of_getElem? hLi)).2.1 h
            · exact hz k i n hjk hLi h
          | _=>exact hc2.elim
        | blk T cs=>simp only [renI] at h2; cases hr:renL js cs <;> simp [hr] at h2
        | lm k3 l3=>simp only [renI] at h2; cases hr:renM js l3 <;> simp [hr] at h2
        | elt s ow cs=>
          cases s with
          | none=>simp only [renI] at h2; cases hr:renL js cs <;> simp [hr] at h2
          | some q=>cases h2
        | own sz' E' R' l'=>simp only [renI,Option.some.injEq] at h2; cases h2
        | rd sz' R' l'=>simp only [renI,Option.some.injEq] at h2; cases h2
        | str s=>simp only [renI,Option.some.injEq] at h2; cases h2
        | adr=>simp only [renI,Option.some.injEq] at h2; cases h2
        | gone=>simp only [renI,Option.some.injEq] at h2; cases h2
      | _=>cases hf
  cases t with
  | gone=>cases cJ κ j <;> trivial
  | adr=>
    simp only [renI,Option.some.injEq] at h2
    subst h2
    cases j with
    | g i=>
      simp only [srcI] at h1
      have hi:its[i]? = some .adr:=by
        split at h1
        · cases h1
        · cases h1
        · exact h1
      obtain⟨c,hc1,hc2⟩:=S.conc hi
      simp only [cJ,hc1,Option.getD_some]
      cases c with
      | b n=>trivial
      | _=>exact hc2.elim
    | l i=>exact key i (.inl rfl) h1
    | z i=>exact key i (.inr rfl) h1
    | n=>cases h1
    | o=>cases h1
    | k s=>simp [srcI] at h1
  | blk T cs=>
    cases hr:renL js cs with
    | none=>simp [renI,hr] at h2
    | some cs'=>
      simp only [renI,hr,Option.map_some,Option.some.injEq] at h2
      subst h2
      cases j with
      | g i=>
        simp only [srcI] at h1
        have hi:its[i]? = some (.blk T cs'):=by
          split at h1
          · cases h1
          · cases h1
          · exact h1
        obtain⟨c,hc1,hc2⟩:=S.conc hi
        simp only [cJ,hc1,Option.getD_some]
        cases c with
        | b n=>
          simp only [OK] at hc2 ⊢
          rw [renL_den hb' hr]
          exact hc2
        | _=>exact hc2.elim
      | l i=>exact key i (.inl rfl) h1
      | z i=>exact key i (.inr rfl) h1
      | n=>cases h1
      | o=>cases h1
      | k s=>simp [srcI] at h1
  | lm k l=>
    cases hr:renM js l with
    | none=>simp [renI,hr] at h2
    | some l'=>
      simp only [renI,hr,Option.map_some,Option.some.injEq] at h2
      subst h2
      cases j with
      | g i=>
        simp only [srcI] at h1
        have hi:its[i]? = some (.lm k l'):=by
          split at h1
          · cases h1
          · cases h1
          · exact h1
        obtain⟨c,hc1,hc2⟩:=S.conc hi
        simp only [cJ,hc1,Option.getD_some]
        cases c with
        | m b=>
          simp only [OK] at hc2 ⊢
          rw [renM_den hb' hr]
          obtain⟨n,rfl,hm⟩:=hc2
          exact⟨n,rfl,hm.step rfl (fun _ _ _=>rfl) (fun b _=>hU b)⟩
        | _=>exact hc2.elim
      | l i=>exact key i (.inl rfl) h1
      | z i=>exact key i (.inr rfl) h1
      | n=>cases h1
      | o=>cases h1
      | k s=>simp [srcI] at h1
  | elt s ow cs=>
    cases s with
    | some q=>cases h2
    | none=>
    cases hr:renL js cs with
    | none=>simp [renI,hr] at h2
    | some cs'=>
      simp only [renI,hr,Option.map_some,Option.some.injEq] at h2
      subst h2
      cases j with
      | g i=>
        simp only [srcI] at h1
        have hi:∃src,its[i]? = some (.elt src false cs'):=by
          split at h1
          · rename_i src cs2 hi
            simp only [Option.some.injEq,Item.elt.injEq,true_and] at h1
            subst h1
            exact⟨src,hi⟩
          · cases h1
          · rename_i hne _
            exact absurd h1 (hne _ _)
        obtain⟨src,hi⟩:=hi
        obtain⟨c,hc1,hc2⟩:=S.conc hi
        simp only [cJ,hc1,Option.getD_some]
        cases c with
        | a ad=>
          have hat:At (Mu fx.U0 (Lof its κ)) w ad (cs'.map (Cell.den κ))∧cs'≠[]:=by
            cases src with
            | none=>exact hc2
            | some q=>exact⟨⟨fun h=>hc2.1.1 ⟨rfl,h⟩,hc2.1.2⟩,hc2.2.1⟩
          have hne:cs≠[]:=by
            intro e
            subst e
            simp only [renL,Option.some.injEq] at hr
            exact hat.2 hr.symm
          simp only [OK]
          rw [renL_den hb' hr]
          exact⟨hat.1.mu hU,hne⟩
        | _=>cases src <;> exact hc2.elim
      | l i=>exact key i (.inl rfl) h1
      | z i=>exact key i (.inr rfl) h1
      | n=>cases h1
      | o=>cases h1
      | k s=>simp [srcI] at h1
  | own sz E R l=>
    simp only [renI,Option.some.injEq] at h2
    subst h2
    cases j with
    | g i=>
      simp only [srcI] at h1
      have hi:its[i]? = some (.own sz E R l):=by
        split at h1
        · cases h1
        · cases h1
        · exact h1
      obtain⟨c,hc1,hc2⟩:=S.conc hi
      simp only [cJ,hc1,Option.getD_some]
      cases c with
      | r A n c=>exact⟨hc2.1,hc2.2.mu hU⟩
      | _=>exact hc2.elim
    | l i=>exact key i (.inl rfl) h1
    | z i=>exact key i (.inr rfl) h1
    | n=>
      simp only [srcI,Option.some.injEq] at h1
      have:l=[]:=by
        have:=congrArg (fun it=>match it with | @Item.own _ _ _ _ _ l=>l.length | _=>0) h1
        exact List.eq_nil_of_length_eq_zero this.symm
      subst this
      exact⟨rfl,Own.nil⟩
    | o=>cases h1
    | k s=>simp [srcI] at h1
  | rd sz R l=>
    simp only [renI,Option.some.injEq] at h2
    subst h2
    cases j with
    | g i=>
      simp only [srcI] at h1
      have hi:its[i]? = some (.rd sz R l):=by
        split at h1
        · cases h1
        · cases h1
        · exact h1
      obtain⟨c,hc1,hc2⟩:=S.conc hi
      simp only [cJ,hc1,Option.getD_some]
      cases c with
      | r A n c=>exact⟨hc2.1,hc2.2.mu hU⟩
      | _=>exact hc2.elim
    | l i=>exact key i (.inl rfl) h1
    | z i=>exact key i (.inr rfl) h1
    | n=>
      simp only [srcI,Option.some.injEq] at h1
      have:l=[]:=by
        have:=congrArg (fun it=>match it with | @Item.rd _ _ _ _ l=>l.length | _=>0) h1
        exact List.eq_nil_of_length_eq_zero this.symm
      subst this
      exact⟨rfl,Sl.nil0⟩
    | o=>cases h1
    | k s=>simp [srcI] at h1
  | str s=>
    simp only [renI,Option.some.injEq] at h2
    subst h2
    cases j with
    | g i=>
      simp only [srcI] at h1
      have hi:its[i]? = some (.str s):=by
        split at h1
        · cases h1
        · cases h1
        · exact h1
      obtain⟨c,hc1,hc2⟩:=S.conc hi
      simp only [cJ,hc1,Option.getD_some]
      cases c with
      | s x=>exact hc2
      | _=>exact hc2.elim
    | l i=>exact key i (.inl rfl) h1
    | z i=>exact key i (.inr rfl) h1
    | n=>cases h1
    | o=>cases h1
    | k b=>
      simp only [srcI,Option.some.injEq] at h1
      cases h1
      rfl
  | mp kk R ow l=>
    simp only [renI,Option.some.injEq] at h2
    subst h2
    cases j with
    | g i=>
      simp only [srcI] at h1
      have hi:its[i]? = some (.mp kk R ow l):=by
        split at h1
        · cases h1
        · cases h1
        · exact h1
      obtain⟨c,hc1,hc2⟩:=S.conc hi
      simp only [cJ,hc1,Option.getD_some]
      cases c with
      | m b0=>
        cases ow with
        | true=>
          simp only [OK] at hc2 ⊢
          obtain⟨n,rfl,hm⟩:=hc2
          exact⟨n,rfl,hm.step rfl (fun _ _ _=>rfl) (fun b _=>hU b)⟩
        | false=>
          simp only [OK] at hc2 ⊢
          rcases hc2 with h | ⟨n,rfl,hn,hm⟩
          · exact .inl h
          · exact .inr ⟨n,rfl,fun q=>hn (hU n q),hm.step rfl (fun _ _ _=>rfl) (fun b _=>hU b)⟩
      | _=>cases ow <;> exact hc2.elim
    | l i=>exact key i (.inl rfl) h1
    | z i=>exact key i (.inr rfl) h1
    | n=>cases h1
    | o=>
      cases ow with
      | true=>cases h1
      | false=>
        simp only [srcI,Option.some.injEq] at h1
        have:l=[]:=by
          have:=congrArg (fun it=>match it with | @Item.mp _ _ _ _ _ l=>l.length | _=>0) h1
          exact List.eq_nil_of_length_eq_zero this.symm
        subst this
        exact .inl ⟨rfl,rfl⟩
    | k s=>simp [srcI] at h1
end
end V
end Go.Proofs.YtbgfhaahhdnogaaGreat
