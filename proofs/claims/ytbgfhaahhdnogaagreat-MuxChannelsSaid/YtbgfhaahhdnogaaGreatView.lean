/- One description from another: arrivals at a cut, results. -/
import Derived.Test.YtbgfhaahhdnogaaGreatEff
namespace Go.Proofs.YtbgfhaahhdnogaaGreat
namespace V
inductive Jx where
 | g (i:Nat)
 | l (i:Nat)
 | z (i:Nat)
 | n
 | o
 | k (s:ByteArray)
def zR(js:List Jx):Cell->Option Cell
 | .v x=>some (.v x)
 | .p j o=>match js[j]? with
   | some (.g i)=>some (.p i o)
   | _=>none
 | .s j=>match js[j]? with
   | some (.g i)=>some (.s i)
   | some (.l i)=>some (.s i)
   | some (.z i)=>some (.s i)
   | some .n=>some nl
   | _=>none
 | .t j=>match js[j]? with
   | some (.g i)=>some (.t i)
   | some (.k s)=>some (.v (.string s))
   | _=>none
 | .m j=>match js[j]? with
   | some (.g i)=>some (.m i)
   | some (.l i)=>some (.m i)
   | some (.z i)=>some (.m i)
   | some .o=>some (.v (.map none))
   | _=>none
 | .w fn j o=>match js[j]? with
   | some (.g i)=>some (.w fn i o)
   | _=>none
def oQ(js:List Jx):List Cell->Option (List Cell)
 | []=>some []
 | c::r=>match zR js c,oQ js r with
   | some c,some r=>some (c::r)
   | _,_=>none
def JG(js:List Jx):List (Cell ⊕ List Cell)->Option (List (Cell ⊕ List Cell))
 | []=>some []
 | .inl c::r=>match zR js c,JG js r with
   | some c,some r=>some (.inl c::r)
   | _,_=>none
 | .inr c::r=>match oQ js c,JG js r with
   | some c,some r=>some (.inr c::r)
   | _,_=>none
def sN(js:List Jx):SV->Option SV
 | .c x=>(zR js x).map .c
 | .g l=>(oQ js l).map .g
 | .u l=>(JG js l).map .u
 | .f fn l=>(oQ js l).map (.f fn)
def Hf(js:List Jx):bP->Option bP
 | []=>some []
 | (t,x)::r=>match sN js x,Hf js r with
  | some x,some r=>some ((t,x)::r)
  | _,_=>none
def qY(env:bP):bP->Option bP
 | []=>some []
 | (t,_)::r=>match EA t env,qY env r with
  | some x,some r=>some ((t,x)::r)
  | _,_=>none
def Cm(js:List Jx):List (Int×Cell)->Option (List (Int×Cell))
 | []=>some []
 | (x,c)::r=>match zR js c,Cm js r with
  | some c,some r=>some ((x,c)::r)
  | _,_=>none
def gY(js:List Jx):Item->Option Item
 | .k T cs=>(oQ js cs).map (.k T)
 | .lm k l=>(Cm js l).map (.lm k)
 | .elt none _ cs=>(oQ js cs).map (.elt none false)
 | .elt (some _) _ _=>none
 | it=>some it
def j5(js:List Jx):List Item->Option (List Item)
 | []=>some []
 | c::r=>match gY js c,j5 js r with
   | some c,some r=>some (c::r)
   | _,_=>none
def Z7:Option Item->Option Item
 | some (@Item.o _ sz _ R _ l)=>some (.d sz R l)
 | some (@Item.mp _ k R _ true l)=>some (.mp k R false l)
 | _=>none
def lZ(its:List Item):Jx->Item->Option Item
 | _,.e=>some .e
 | .g i,_=>match its[i]? with
   | some (.elt _ false cs)=>some (.elt none false cs)
   | some (.elt _ true _)=>none
   | o=>o
 | .l i,_=>Z7 its[i]?
 | .z i,_=>Z7 its[i]?
 | .n,@Item.o _ sz E R _ _=>some (.o sz E R [])
 | .n,@Item.d _ sz R _ _=>some (.d sz R [])
 | .o,@Item.mp _ k R _ false _=>some (.mp k R false [])
 | .k s,_=>some (.str (strOf s))
 | _,_=>none
def srcs(its:List Item):List Jx->List Item->Option (List Item)
 | [],[]=>some []
 | j::js,t::ts=>match lZ its j t,srcs its js ts with
   | some c,some r=>some (c::r)
   | _,_=>none
 | _,_=>none
def Item.owned:Item->Bool
 | .k ..=>true
 | @Item.o _ _ _ _ _ _=>true
 | @Item.mp _ _ _ _ true _=>true
 | .lm ..=>true
 | _=>false
def jR:List Jx->List Item->List Nat
 | .g i::js,t::ts=>match t.owned with
   | true=>i::jR js ts
   | false=>jR js ts
 | _::js,_::ts=>jR js ts
 | _,_=>[]
def Qg(i:Nat):List Nat->Bool
 | []=>false
 | j::l=>Nat.beq i j||Qg i l
def qW:List Nat->Bool
 | []=>true
 | j::l=>!Qg j l&&qW l
def Dj:List Jx->List Nat
 | .z i::js=>i::Dj js
 | .l i::js=>i::Dj js
 | _::js=>Dj js
 | []=>[]
def okG(js:List Jx)(ts:List Item):Bool:=qW (jR js ts)&&(Dj js).all fun i=>!Qg i (jR js ts)
def preB(n0:Nat)(js:List Jx):Bool:=(List.range n0).all fun i=>match js[i]? with
 | some (.g k)=>Nat.beq k i
 | _=>false
def cJ(κ:List Conc):Jx->Conc
 | .g i=>κ[i]?.getD .z
 | .l i=>κ[i]?.getD .z
 | .z i=>κ[i]?.getD .z
 | .n=>.r none 0 0
 | .o=>.m none
 | .k s=>.s s
theorem pR{i}:∀{l},Qg i l=true↔i∈l
 | []=>by simp[Qg]
 | j::l=>by simp[Qg,pR (l:=l),Nat.beq_eq]
theorem kL{i}:∀{js} {ts} {k:Nat} {t},js[k]?=some (.g i)->ts[k]?=some t->t.owned=true->i∈jR js ts
 | [],ts,k,t,h,_,_=>by simp at h
 | j::js,[],k,t,_,h,_=>by simp at h
 | j::js,t0::ts,0,t,h1,h2,h3=>by
   simp at h1 h2;subst h1;subst h2;simp[jR,h3]
 | j::js,t0::ts,k+1,t,h1,h2,h3=>by
   simp at h1 h2;have ih:=kL h1 h2 h3;cases j with
   | g q=>simp only[jR];split<;>simp[ih]
   | _=>exact ih
theorem Cu{i}:∀{js} {ts} {k m:Nat} {t u},qW (jR js ts)=true->js[k]?=some (.g i)->ts[k]?=some t->t.owned=true->js[m]?=some (.g i)->ts[m]?=some u->u.owned=true->k=m
 | [],ts,k,m,t,u,_,h,_,_,_,_,_=>by simp at h
 | j::js,[],k,m,t,u,_,_,h,_,_,_,_=>by simp at h
 | j::js,t0::ts,0,0,t,u,_,_,_,_,_,_,_=>rfl
 | j::js,t0::ts,k+1,m+1,t,u,hn,h1,h2,h3,h4,h5,h6=>by
   simp at h1 h2 h4 h5;have hn':qW (jR js ts)=true:=by
    cases j with
    | g q=>
      simp only[jR]at hn;split at hn
      .simp[qW]at hn;exact hn.2
      .exact hn
    | _=>exact hn
   rw[Cu hn' h1 h2 h3 h4 h5 h6]
 | j::js,t0::ts,0,m+1,t,u,hn,h1,h2,h3,h4,h5,h6=>by
   simp at h1 h2 h4 h5;subst h1;subst h2;have:=kL h4 h5 h6;simp only[jR,h3,qW,Bool.and_eq_true,Bool.not_eq_true']at hn;rw[pR.2 this]at hn;cases hn.1
 | j::js,t0::ts,k+1,0,t,u,hn,h1,h2,h3,h4,h5,h6=>by
   simp at h1 h2 h4 h5;subst h4;subst h5;have:=kL h1 h2 h3;simp only[jR,h6,qW,Bool.and_eq_true,Bool.not_eq_true']at hn;rw[pR.2 this]at hn;cases hn.1
theorem wW{i}:∀{js} {k:Nat},(js[k]?=some (.z i)\/js[k]?=some (.l i))->i∈Dj js
 | [],k,h=>by simp at h
 | j::js,0,h=>by
   simp at h;rcases h with rfl|rfl<;>simp[Dj]
 | j::js,k+1,h=>by
   simp at h;have ih:=wW h;cases j<;>simp[Dj,ih]
section
variable {N n0:Nat} {fx:Fx} {its aR:List Item} {κ:List Conc} {w:World} {env env':bP} {js:List Jx}
theorem wG(hb:∀(j i:Nat),js[j]?=some (.g i)\/js[j]?=some (.l i)\/js[j]?=some (.z i)->i<κ.length){c c'}(h:zR js c=some c'):c.den (js.map (cJ κ))=c'.den κ:=by
 have get:∀(j i:Nat),(js[j]?=some (.g i)\/js[j]?=some (.l i)\/js[j]?=some (.z i))->(js.map (cJ κ))[j]?=κ[i]?:=by
  intro j i hj;have hlt:=hb j i hj;rw[List.getElem?_map];rcases hj with hj|hj|hj<;>simp[hj,cJ,List.getElem?_eq_getElem hlt]
 cases c with
 | v x=>simp only[zR,Option.some.injEq]at h;subst h;rfl
 | p j o=>
   simp only[zR]at h;split at h
   .rename_i i hj;injection h with h;subst h;simp only[Cell.den,get j i (.inl hj)]
   .cases h
 | w fn j o=>
   simp only[zR]at h;split at h
   .rename_i i hj;injection h with h;subst h;simp only[Cell.den,get j i (.inl hj)]
   .cases h
 | s j=>
   simp only[zR]at h;split at h
   .rename_i i hj;injection h with h;subst h;simp only[Cell.den,get j i (.inl hj)]
   .rename_i i hj;injection h with h;subst h;simp only[Cell.den,get j i (.inr (.inl hj))]
   .rename_i i hj;injection h with h;subst h;simp only[Cell.den,get j i (.inr (.inr hj))]
   .rename_i hj;injection h with h;subst h;simp[Cell.den,hj,cJ]
   .cases h
 | t j=>
   simp only[zR]at h;split at h
   .rename_i i hj;injection h with h;subst h;simp only[Cell.den,get j i (.inl hj)]
   .rename_i s hj;injection h with h;subst h;simp[Cell.den,hj,cJ]
   .cases h
 | m j=>
   simp only[zR]at h;split at h
   .rename_i i hj;injection h with h;subst h;simp only[Cell.den,get j i (.inl hj)]
   .rename_i i hj;injection h with h;subst h;simp only[Cell.den,get j i (.inr (.inl hj))]
   .rename_i i hj;injection h with h;subst h;simp only[Cell.den,get j i (.inr (.inr hj))]
   .rename_i hj;injection h with h;subst h;simp[Cell.den,hj,cJ]
   .cases h
theorem pO(hb:∀(j i:Nat),js[j]?=some (.g i)\/js[j]?=some (.l i)\/js[j]?=some (.z i)->i<κ.length):∀{l l'},oQ js l=some l'->l.map (Cell.den (js.map (cJ κ)))=l'.map (Cell.den κ)
 | [],l',h=>by simp only[oQ,Option.some.injEq]at h;subst h;rfl
 | c::r,l',h=>by
   simp only[oQ]at h;split at h
   .rename_i c' r' hc hr;injection h with h;subst h;simp only[List.map_cons,wG hb hc,pO hb hr]
   .cases h
theorem JH(hb:∀(j i:Nat),js[j]?=some (.g i)\/js[j]?=some (.l i)\/js[j]?=some (.z i)->i<κ.length):∀{l l'},Cm js l=some l'->(l.map fun p=>(p.1,p.2.den (js.map (cJ κ))))=l'.map fun p=>(p.1,p.2.den κ)
 | [],l',h=>by simp only[Cm,Option.some.injEq]at h;subst h;rfl
 | (x,c)::r,l',h=>by
  simp only[Cm]at h;split at h
  .rename_i c' r' hc hr;injection h with h;subst h;simp only[List.map_cons,wG hb hc,JH hb hr]
  .cases h
theorem Ci(hb:∀(j i:Nat),js[j]?=some (.g i)\/js[j]?=some (.l i)\/js[j]?=some (.z i)->i<κ.length):∀{l l'},JG js l=some l'->l.map (Lh (js.map (cJ κ)))=l'.map (Lh κ)
 | [],l',h=>by simp only[JG,Option.some.injEq]at h;subst h;rfl
 | .inl c::r,l',h=>by
   simp only[JG]at h;split at h
   .rename_i c' r' hc hr;injection h with h;subst h;simp only[List.map_cons,Lh,wG hb hc,Ci hb hr]
   .cases h
 | .inr c::r,l',h=>by
   simp only[JG]at h;split at h
   .rename_i c' r' hc hr;injection h with h;subst h;simp only[List.map_cons,Lh,pO hb hc,Ci hb hr]
   .cases h
theorem Ck(hb:∀(j i:Nat),js[j]?=some (.g i)\/js[j]?=some (.l i)\/js[j]?=some (.z i)->i<κ.length){x x'}(h:sN js x=some x'):x.den (js.map (cJ κ))=x'.den κ:=by
 cases x with
 | c y=>
   simp only[sN]at h;cases hy:zR js y with
   | none=>simp[hy]at h
   | some c=>simp[hy]at h;subst h;exact wG hb hy
 | g l=>
   simp only[sN]at h;cases hy:oQ js l with
   | none=>simp[hy]at h
   | some c=>simp[hy]at h;subst h;simp only[SV.den,pO hb hy]
 | u l=>
   simp only[sN]at h;cases hy:JG js l with
   | none=>simp[hy]at h
   | some c=>simp[hy]at h;subst h;simp only[SV.den,Ci hb hy]
 | f fn l=>
   simp only[sN]at h;cases hy:oQ js l with
   | none=>simp[hy]at h
   | some c=>simp[hy]at h;subst h;simp only[SV.den,pO hb hy]
theorem wF(hb:∀(j i:Nat),js[j]?=some (.g i)\/js[j]?=some (.l i)\/js[j]?=some (.z i)->i<κ.length):∀{e e'},Hf js e=some e'->qY env e=some e'->Sub (fD κ env) (fD (js.map (cJ κ)) e)
 | [],e',h,_=>trivial
 | (t,x)::r,e',h,h2=>by
  simp only[Hf]at h;simp only[qY]at h2;split at h
  .rename_i x1 r1 hx hr;injection h with h;subst h;split at h2
   .rename_i x2 r2 hx2 hr2;injection h2 with h2;injection h2 with h3 h4;injection h3 with _ h3;subst h3;subst h4;refine⟨?_,wF hb hr hr2⟩;show lk t (fD κ env)=some (x.den (js.map (cJ κ)));rw[Ck hb hx];exact iZ hx2
   .cases h2
  .cases h
theorem vT{js'}:∀{js} {ts r},srcs its js ts=some r->j5 js' ts=some r->js.length=ts.length/\∀(k:Nat) t,ts[k]?=some t->∃j x,js[k]?=some j/\lZ its j t=some x/\gY js' t=some x
 | [],[],r,h,h2=>⟨rfl,fun k t h=>by simp at h⟩
 | j::js,t::ts,r,h,h2=>by
   simp only[srcs]at h;simp only[j5]at h2;split at h
   .rename_i c r1 hc hr;injection h with h;subst h;split at h2
    .rename_i c2 r2 hc2 hr2;injection h2 with h2;injection h2 with h3 h4;subst h3;subst h4;obtain⟨h5,h6⟩:=vT hr hr2;refine⟨by simp[h5],fun k t' hk=>?_⟩;cases k with
     | zero=>simp at hk;subst hk;exact⟨j,c2,rfl,hc,hc2⟩
     | succ k=>
       simp only[List.getElem?_cons_succ]at hk |-;exact h6 k t' hk
    .cases h2
   .cases h
 | [],_::_,r,h,_=>by cases h
 | _::_,[],r,h,_=>by cases h
def zZ(n:Nat)(js:List Jx):Bool:=js.all fun
 | .g i=>Nat.blt i n
 | .l i=>Nat.blt i n
 | .z i=>Nat.blt i n
 | _=>true
theorem oK{n}(h:zZ n js=true):∀(j i:Nat),js[j]?=some (.g i)\/js[j]?=some (.l i)\/js[j]?=some (.z i)->i<n:=by
 intro j i hj;unfold zZ at h;rw[List.all_eq_true]at h;rcases hj with hj|hj|hj<;>(have:=h _ (List.mem_of_getElem? hj);simpa [Nat.blt_eq]using this)
theorem Na(S:St n0 fx env its κ w)(hb:zZ its.length js=true){L'}(hL:∀b,some b∈L'->some b∈dL its κ)(hz:∀(k i b:Nat),(js[k]?=some (.z i)\/js[k]?=some (.l i))->(dL its κ)[i]?=some (some b)->some b∉L'){k:Nat}{j t x}(hj:js[k]?=some j)(h1:lZ its j t=some x)(h2:gY js t=some x) :
 OK (js.map (cJ κ)) (Mu fx.U0 L') w t (cJ κ j):=by
 have hb':∀(j i:Nat),js[j]?=some (.g i)\/js[j]?=some (.l i)\/js[j]?=some (.z i)->i<κ.length:=by rw[S.len];exact oK hb
 have hU:∀b,Mu fx.U0 L' b->Mu fx.U0 (dL its κ) b:=Mu.weaken hL;have key:∀i,j=.l i\/j=.z i->Z7 its[i]?=some x->OK (js.map (cJ κ)) (Mu fx.U0 L') w t (cJ κ j):=by
  intro i hji hf;have hc:cJ κ j=κ[i]?.getD .z:=by rcases hji with rfl|rfl<;>rfl
  have hjk:js[k]?=some (.z i)\/js[k]?=some (.l i):=by rcases hji with rfl|rfl;exact .inr hj;exact .inl hj
  cases hi:its[i]? with
  | none=>rw[hi]at hf;cases hf
  | some it=>
    rw[hi]at hf;cases it with
    | o sz E R l=>
      simp only[Z7,Option.some.injEq]at hf;subst hf;obtain⟨c,hc1,hc2⟩:=S.iy hi;rw[hc,hc1];cases t with
      | d sz' R' l'=>
        simp only[gY,Option.some.injEq]at h2;cases h2;cases c with
        | r A n c=>
          refine⟨hc2.1,hc2.2.toSl (fun b hb hM=>?_) hU⟩;have Uk:=bU hi hc1;simp only[iM,hb]at Uk;rcases hM with h|h
          .exact(S.ctx.live b (List.mem_of_getElem? Uk)).2.1 h
          .exact hz k i b hjk Uk h
        | _=>exact hc2.elim
      | k T cs=>simp only[gY]at h2;cases hr:oQ js cs<;>simp[hr]at h2
      | lm k3 l3=>simp only[gY]at h2;cases hr:Cm js l3<;>simp[hr]at h2
      | elt s ow cs=>
        cases s with
        | none=>simp only[gY]at h2;cases hr:oQ js cs<;>simp[hr]at h2
        | some q=>cases h2
      | o sz' E' R' l'=>simp only[gY,Option.some.injEq]at h2;cases h2
      | str s=>simp only[gY,Option.some.injEq]at h2;cases h2
      | mp k' R' o' l'=>simp only[gY,Option.some.injEq]at h2;cases h2
      | F6=>simp only[gY,Option.some.injEq]at h2;cases h2
      | e=>simp only[gY,Option.some.injEq]at h2;cases h2
    | mp kk R ow l=>
      cases ow with
      | false=>cases hf
      | true=>
      simp only[Z7,Option.some.injEq]at hf;subst hf;obtain⟨c,hc1,hc2⟩:=S.iy hi;rw[hc,hc1];cases t with
      | mp k' R' o' l'=>
        simp only[gY,Option.some.injEq]at h2;cases h2;cases c with
        | m b0=>
          simp only[OK]at hc2;obtain⟨n,rfl,hm⟩:=hc2;refine .inr ⟨n,rfl,fun hM=>?_,hm.step rfl (fun _ _ _=>rfl) (fun b _=>hU b)⟩;have Uk:=bU hi hc1;simp only[iM]at Uk;rcases hM with h|h
          .exact(S.ctx.live n (List.mem_of_getElem? Uk)).2.1 h
          .exact hz k i n hjk Uk h
        | _=>exact hc2.elim
      | k T cs=>simp only[gY]at h2;cases hr:oQ js cs<;>simp[hr]at h2
      | lm k3 l3=>simp only[gY]at h2;cases hr:Cm js l3<;>simp[hr]at h2
      | elt s ow cs=>
        cases s with
        | none=>simp only[gY]at h2;cases hr:oQ js cs<;>simp[hr]at h2
        | some q=>cases h2
      | o sz' E' R' l'=>simp only[gY,Option.some.injEq]at h2;cases h2
      | d sz' R' l'=>simp only[gY,Option.some.injEq]at h2;cases h2
      | str s=>simp only[gY,Option.some.injEq]at h2;cases h2
      | F6=>simp only[gY,Option.some.injEq]at h2;cases h2
      | e=>simp only[gY,Option.some.injEq]at h2;cases h2
    | _=>cases hf
 cases t with
 | e=>cases cJ κ j<;>trivial
 | F6=>
   simp only[gY,Option.some.injEq]at h2;subst h2;cases j with
   | g i=>
     simp only[lZ]at h1;have hi:its[i]?=some .F6:=by
      split at h1
      .cases h1
      .cases h1
      .exact h1
     obtain⟨c,hc1,hc2⟩:=S.iy hi;simp only[cJ,hc1,Option.getD_some];cases c with
     | b n=>trivial
     | _=>exact hc2.elim
   | l i=>exact key i (.inl rfl) h1
   | z i=>exact key i (.inr rfl) h1
   | n=>cases h1
   | o=>cases h1
   | k s=>simp[lZ]at h1
 | k T cs=>
   cases hr:oQ js cs with
   | none=>simp[gY,hr]at h2
   | some cs'=>
     simp only[gY,hr,Option.map_some,Option.some.injEq]at h2;subst h2;cases j with
     | g i=>
       simp only[lZ]at h1;have hi:its[i]?=some (.k T cs'):=by
        split at h1
        .cases h1
        .cases h1
        .exact h1
       obtain⟨c,hc1,hc2⟩:=S.iy hi;simp only[cJ,hc1,Option.getD_some];cases c with
       | b n=>
         simp only[OK]at hc2 |-;rw[pO hb' hr];exact hc2
       | _=>exact hc2.elim
     | l i=>exact key i (.inl rfl) h1
     | z i=>exact key i (.inr rfl) h1
     | n=>cases h1
     | o=>cases h1
     | k s=>simp[lZ]at h1
 | lm k l=>
   cases hr:Cm js l with
   | none=>simp[gY,hr]at h2
   | some l'=>
     simp only[gY,hr,Option.map_some,Option.some.injEq]at h2;subst h2;cases j with
     | g i=>
       simp only[lZ]at h1;have hi:its[i]?=some (.lm k l'):=by
        split at h1
        .cases h1
        .cases h1
        .exact h1
       obtain⟨c,hc1,hc2⟩:=S.iy hi;simp only[cJ,hc1,Option.getD_some];cases c with
       | m b=>
         simp only[OK]at hc2 |-;rw[JH hb' hr];obtain⟨n,rfl,hm⟩:=hc2;exact⟨n,rfl,hm.step rfl (fun _ _ _=>rfl) (fun b _=>hU b)⟩
       | _=>exact hc2.elim
     | l i=>exact key i (.inl rfl) h1
     | z i=>exact key i (.inr rfl) h1
     | n=>cases h1
     | o=>cases h1
     | k s=>simp[lZ]at h1
 | elt s ow cs=>
   cases s with
   | some q=>cases h2
   | none=>
   cases hr:oQ js cs with
   | none=>simp[gY,hr]at h2
   | some cs'=>
     simp only[gY,hr,Option.map_some,Option.some.injEq]at h2;subst h2;cases j with
     | g i=>
       simp only[lZ]at h1;have hi:∃src,its[i]?=some (.elt src false cs'):=by
        split at h1
        .rename_i src cs2 hi;simp only[Option.some.injEq,Item.elt.injEq,true_and]at h1;subst h1;exact⟨src,hi⟩
        .cases h1
        .rename_i hne _;exact absurd h1 (hne _ _)
       obtain⟨src,hi⟩:=hi;obtain⟨c,hc1,hc2⟩:=S.iy hi;simp only[cJ,hc1,Option.getD_some];cases c with
       | a ad=>
         have hat:At (Mu fx.U0 (dL its κ)) w ad (cs'.map (Cell.den κ))/\cs'≠[]:=by
          cases src with
          | none=>exact hc2
          | some q=>exact⟨⟨fun h=>hc2.1.1 ⟨rfl,h⟩,hc2.1.2⟩,hc2.2.1⟩
         have hne:cs≠[]:=by
          intro e;subst e;simp only[oQ,Option.some.injEq]at hr;exact hat.2 hr.symm
         simp only[OK];rw[pO hb' hr];exact⟨hat.1.mu hU,hne⟩
       | _=>cases src<;>exact hc2.elim
     | l i=>exact key i (.inl rfl) h1
     | z i=>exact key i (.inr rfl) h1
     | n=>cases h1
     | o=>cases h1
     | k s=>simp[lZ]at h1
 | o sz E R l=>
   simp only[gY,Option.some.injEq]at h2;subst h2;cases j with
   | g i=>
     simp only[lZ]at h1;have hi:its[i]?=some (.o sz E R l):=by
      split at h1
      .cases h1
      .cases h1
      .exact h1
     obtain⟨c,hc1,hc2⟩:=S.iy hi;simp only[cJ,hc1,Option.getD_some];cases c with
     | r A n c=>exact⟨hc2.1,hc2.2.mu hU⟩
     | _=>exact hc2.elim
   | l i=>exact key i (.inl rfl) h1
   | z i=>exact key i (.inr rfl) h1
   | n=>
     simp only[lZ,Option.some.injEq]at h1;have:l=[]:=by
      have:=congrArg (fun it=>match it with | @Item.o _ _ _ _ _ l=>l.length | _=>0) h1
      exact List.eq_nil_of_length_eq_zero this.symm
     subst this;exact⟨rfl,Own.nil⟩
   | o=>cases h1
   | k s=>simp[lZ]at h1
 | d sz R l=>
   simp only[gY,Option.some.injEq]at h2;subst h2;cases j with
   | g i=>
     simp only[lZ]at h1;have hi:its[i]?=some (.d sz R l):=by
      split at h1
      .cases h1
      .cases h1
      .exact h1
     obtain⟨c,hc1,hc2⟩:=S.iy hi;simp only[cJ,hc1,Option.getD_some];cases c with
     | r A n c=>exact⟨hc2.1,hc2.2.mu hU⟩
     | _=>exact hc2.elim
   | l i=>exact key i (.inl rfl) h1
   | z i=>exact key i (.inr rfl) h1
   | n=>
     simp only[lZ,Option.some.injEq]at h1;have:l=[]:=by
      have:=congrArg (fun it=>match it with | @Item.d _ _ _ _ l=>l.length | _=>0) h1
      exact List.eq_nil_of_length_eq_zero this.symm
     subst this;exact⟨rfl,Sl.Qd⟩
   | o=>cases h1
   | k s=>simp[lZ]at h1
 | str s=>
   simp only[gY,Option.some.injEq]at h2;subst h2;cases j with
   | g i=>
     simp only[lZ]at h1;have hi:its[i]?=some (.str s):=by
      split at h1
      .cases h1
      .cases h1
      .exact h1
     obtain⟨c,hc1,hc2⟩:=S.iy hi;simp only[cJ,hc1,Option.getD_some];cases c with
     | s x=>exact hc2
     | _=>exact hc2.elim
   | l i=>exact key i (.inl rfl) h1
   | z i=>exact key i (.inr rfl) h1
   | n=>cases h1
   | o=>cases h1
   | k b=>
     simp only[lZ,Option.some.injEq]at h1;cases h1;rfl
 | mp kk R ow l=>
   simp only[gY,Option.some.injEq]at h2;subst h2;cases j with
   | g i=>
     simp only[lZ]at h1;have hi:its[i]?=some (.mp kk R ow l):=by
      split at h1
      .cases h1
      .cases h1
      .exact h1
     obtain⟨c,hc1,hc2⟩:=S.iy hi;simp only[cJ,hc1,Option.getD_some];cases c with
     | m b0=>
       cases ow with
       | true=>
         simp only[OK]at hc2 |-;obtain⟨n,rfl,hm⟩:=hc2;exact⟨n,rfl,hm.step rfl (fun _ _ _=>rfl) (fun b _=>hU b)⟩
       | false=>
         simp only[OK]at hc2 |-;rcases hc2 with h|⟨n,rfl,hn,hm⟩
         .exact .inl h
         .exact .inr ⟨n,rfl,fun q=>hn (hU n q),hm.step rfl (fun _ _ _=>rfl) (fun b _=>hU b)⟩
     | _=>cases ow<;>exact hc2.elim
   | l i=>exact key i (.inl rfl) h1
   | z i=>exact key i (.inr rfl) h1
   | n=>cases h1
   | o=>
     cases ow with
     | true=>cases h1
     | false=>
       simp only[lZ,Option.some.injEq]at h1;have:l=[]:=by
        have:=congrArg (fun it=>match it with | @Item.mp _ _ _ _ _ l=>l.length | _=>0) h1
        exact List.eq_nil_of_length_eq_zero this.symm
       subst this;exact .inl ⟨rfl,rfl⟩
   | k s=>simp[lZ]at h1
end
end V
end Go.Proofs.YtbgfhaahhdnogaaGreat
