/- Arrivals, results, calls. -/
import Derived.Test.YtbgfhaahhdnogaaGreatView
namespace Go.Proofs.YtbgfhaahhdnogaaGreat
namespace V
section
variable {P:Program} {N n0:Nat} {fx:Fx} {its aW:List Item} {κ:List Conc} {w:World} {env env':bO} {js:List Jx} {tt:TT} {Kn:Act→World→Prop} {Ke:Nat→Act→World→Prop} {Kr:Act→World→Prop} {ops:Array Oper} {rest:List Oper}
theorem KL{t:Item}{c:Conc}{b:Nat}(h:gT t c=some b):t.owned=true:=by
 cases t with
 | mp k R ow l=>cases ow <;> cases c <;> first | rfl | cases h
 | _=>cases c <;> first | rfl | cases h
theorem BU{r:List Item}(hs:srcs its js aW=some r)(hr:jg js aW=some r)(hb:vk its.length js=true)(hl:κ.length=its.length){j b:Nat}(h:(dD aW (js.map (cJ κ)))[j]? = some (some b)) :
 ∃i t,js[j]? = some (.g i)∧aW[j]? = some t∧t.owned=true∧(dD its κ)[i]? = some (some b):=by
 obtain⟨t,c,h1,h2,h3⟩:=vR h
 obtain⟨_,h4⟩:=qQ hs hr
 obtain⟨jx,x,h5,h6,h7⟩:=h4 j t h1
 have ho:=KL h3
 rw[List.getElem?_map,h5]at h2
 simp only[Option.map_some,Option.some.injEq]at h2
 subst h2
 have uM:∀i:Nat,Qm its[i]? = some x→False:=by
  intro i hf
  cases hi:its[i]? with
  | none=>rw[hi]at hf; cases hf
  | some it=>
    rw[hi]at hf
    cases it with
    | o sz E R l=>
      simp only[Qm,Option.some.injEq]at hf
      subst hf
      cases t with
      | k T cs=>simp only[fT]at h7; cases hr:kV js cs <;> simp[hr]at h7
      | lm k3 l3=>simp only[fT]at h7; cases hr:wM js l3 <;> simp[hr]at h7
      | o sz' E' R' l'=>simp only[fT,Option.some.injEq]at h7; cases h7
      | mp k' R' o' l'=>simp only[fT,Option.some.injEq]at h7; cases h7
      | _=>cases ho
    | mp kk R ow l=>
      cases ow with
      | false=>cases hf
      | true=>
      simp only[Qm,Option.some.injEq]at hf
      subst hf
      cases t with
      | k T cs=>simp only[fT]at h7; cases hr:kV js cs <;> simp[hr]at h7
      | lm k3 l3=>simp only[fT]at h7; cases hr:wM js l3 <;> simp[hr]at h7
      | o sz' E' R' l'=>simp only[fT,Option.some.injEq]at h7; cases h7
      | mp k' R' o' l'=>
        simp only[fT,Option.some.injEq]at h7
        cases h7
        cases ho
      | _=>cases ho
    | _=>cases hf
 cases jx with
 | g i=>
   have hlt:i<κ.length:=by rw[hl]; exact kR hb j i (.inl h5)
   have hci:κ[i]? = some κ[i]:=List.getElem?_eq_getElem hlt
   refine⟨i,t,h5,h1,ho,?_⟩
   simp only[cJ,hci,Option.getD_some]at h3
   cases t with
   | k T cs=>
     cases hr:kV js cs with
     | none=>simp[fT,hr]at h7
     | some cs'=>
       simp only[fT,hr,Option.map_some,Option.some.injEq]at h7
       subst h7
       simp only[jF]at h6
       have hi:its[i]? = some (.k T cs'):=by
        split at h6
        ·cases h6
        ·cases h6
        ·exact h6
       have:=cu hi hci
       rw[this,← h3]
       cases κ[i] <;> rfl
   | lm kk l=>
     cases hr:wM js l with
     | none=>simp[fT,hr]at h7
     | some l'=>
       simp only[fT,hr,Option.map_some,Option.some.injEq]at h7
       subst h7
       simp only[jF]at h6
       have hi:its[i]? = some (.lm kk l'):=by
        split at h6
        ·cases h6
        ·cases h6
        ·exact h6
       have:=cu hi hci
       rw[this,← h3]
       cases κ[i] <;> rfl
   | o sz E R l=>
     simp only[fT,Option.some.injEq]at h7
     subst h7
     simp only[jF]at h6
     have hi:its[i]? = some (.o sz E R l):=by
      split at h6
      ·cases h6
      ·cases h6
      ·exact h6
     have:=cu hi hci
     rw[this,h3]
   | mp kk R ow l=>
     simp only[fT,Option.some.injEq]at h7
     subst h7
     simp only[jF]at h6
     have hi:its[i]? = some (.mp kk R ow l):=by
      split at h6
      ·cases h6
      ·cases h6
      ·exact h6
     have:=cu hi hci
     rw[this,h3]
   | _=>cases ho
 | l i=>
   cases t with
   | k T cs=>exact(uM i h6).elim
   | lm kk l=>exact(uM i h6).elim
   | o sz E R l=>exact(uM i h6).elim
   | mp kk R ow l=>exact(uM i h6).elim
   | _=>cases ho
 | z i=>
   cases t with
   | k T cs=>exact(uM i h6).elim
   | lm kk l=>exact(uM i h6).elim
   | o sz E R l=>exact(uM i h6).elim
   | mp kk R ow l=>exact(uM i h6).elim
   | _=>cases ho
 | n=>
   cases t with
   | k T cs=>cases h6
   | lm kk l=>cases h6
   | o sz E R l=>simp[cJ,gT,ob]at h3
   | mp kk R ow l=>cases h6
   | _=>cases ho
 | o=>
   cases t with
   | k T cs=>cases h6
   | lm kk l=>cases h6
   | o sz E R l=>cases h6
   | mp kk R ow l=>
     cases ow with
     | true=>cases h6
     | false=>cases ho
   | _=>cases ho
 | k s=>
   cases t with
   | k T cs=>simp[cJ,gT]at h3
   | lm kk l=>simp[cJ,gT]at h3
   | o sz E R l=>simp[cJ,gT]at h3
   | mp kk R ow l=>cases ow <;> simp[cJ,gT]at h3
   | _=>cases ho
def yS(n0 n:Nat)(js:List Jx)(env':bO)(aW:List Item)(r:Option bO)(ri:Option (List Item)):Bool:=
 preB n0 js&&(vk n js&&(okG js aW&&(sN aW.length env'&&(mH aW.length aW&&(r.isSome&&ri.isSome)))))
theorem St.view(S:St n0 fx env its κ w)(hI:jg js aW=srcs its js aW)(hB:yS n0 its.length js env' aW (some []) (srcs its js aW)=true):St n0 fx env' aW (js.map (cJ κ)) w:=by
 simp only[yS,Bool.and_eq_true]at hB
 obtain⟨h1,h2,h3,h4,h5,_,h6⟩:=hB
 obtain⟨r,hr⟩:=Option.isSome_iff_exists.1 h6
 rw[hr]at hI
 obtain⟨hlen,hget⟩:=qQ hr hI
 simp only[okG,Bool.and_eq_true]at h3
 obtain⟨hnd,hfz⟩:=h3
 unfold preB at h1
 rw[List.all_eq_true]at h1
 have hpre:∀i,i<n0→js[i]? = some (.g i):=by
  intro i hi
  have:=h1 i (List.mem_range.2 hi)
  split at this
  ·rename_i k hk
   rw[hk,Nat.eq_of_beq_eq_true this]
  ·cases this
 have lM:=fun(j b:Nat) (h:(dD aW (js.map (cJ κ)))[j]? = some (some b))=>BU hr hI h2 S.len h
 have hmem:∀b,some b∈dD aW (js.map (cJ κ))→some b∈dD its κ:=by
  intro b hb
  obtain⟨j,hj⟩:=List.getElem?_of_mem hb
  obtain⟨i,_,_,_,_,h⟩:=lM j b hj
  exact List.mem_of_getElem? h
 have hz:∀(k i b:Nat),(js[k]? = some (.z i)∨js[k]? = some (.l i))→(dD its κ)[i]? = some (some b)→some b∉dD aW (js.map (cJ κ)):=by
  intro k i b hk hi hb
  obtain⟨j,hj⟩:=List.getElem?_of_mem hb
  obtain⟨i',t,g1,g2,g3,g4⟩:=lM j b hj
  have e:i=i':=by
   by_cases e:i=i'
   ·exact e
   ·exact(S.ctx.sep i i' b e hi g4).elim
  subst e
  rw[List.all_eq_true]at hfz
  have:=hfz i (rR hk)
  rw[lH.2 (iY g1 g2 g3)]at this
  cases this
 refine⟨by rw[List.length_map]; exact hlen,?_,?_,h4,h5,?_,fun j t c h7 h8=>?_⟩
 ·rw[← S.pre]
  apply List.ext_getElem?
  intro i
  rw[List.getElem?_take,List.getElem?_take]
  by_cases hi:i<n0
  ·rw[if_pos hi,if_pos hi,List.getElem?_map,hpre i hi]
   have:i<κ.length:=Nat.lt_of_lt_of_le hi S.n0
   simp[cJ,List.getElem?_eq_getElem this]
  ·rw[if_neg hi,if_neg hi]
 ·rw[List.length_map]
  cases n0 with
  | zero=>exact Nat.zero_le _
  | succ m=>exact(List.getElem?_eq_some_iff.1 (hpre m (Nat.lt_succ_self m))).1
 ·refine S.ctx.of (fun j=>match js[j]? with | some (.g i)=>i | _=>0) (fun j b h=>?_) (fun j k b hj hk e=>?_)
  ·obtain⟨i,t,g1,_,_,g4⟩:=lM j b h
   simp only[g1]
   exact g4
  ·obtain⟨i,t,g1,g2,g3,g4⟩:=lM j b hj
   obtain⟨i',t',g1',g2',g3',g4'⟩:=lM k b hk
   simp only[g1,g1']at e
   subst e
   exact wU hnd g1 g2 g3 g1' g2' g3'
 ·obtain⟨j',x,g1,g2,g3⟩:=hget j t h7
  rw[List.getElem?_map,g1]at h8
  simp only[Option.map_some,Option.some.injEq]at h8
  subst h8
  exact F7 S h2 hmem hz g1 g2 g3
theorem A.to{a:Act}(h:A N n0 fx env its a w)(js:List Jx)(hI:(Ak js env',jg js aW)=(o9 env env',srcs its js aW))(hB:yS n0 its.length js env' aW (o9 env env') (srcs its js aW)=true):A N n0 fx env' aW a w:=by
 obtain⟨κ,ha,S⟩:=h
 injection hI with h1 h2
 simp only[yS,Bool.and_eq_true]at hB
 obtain⟨b1,b2,b3,b4,b5,b6,b7⟩:=hB
 obtain⟨e,he⟩:=Option.isSome_iff_exists.1 b6
 refine⟨js.map (cJ κ),ha.sub (rA (by rw[S.len]; exact kR b2) (h1.trans he) he),S.view h2 ?_⟩
 simp only[yS,Bool.and_eq_true]
 exact⟨b1,b2,b3,b4,b5,rfl,b7⟩
def mD(i:Nat):List SV→bO
 | []=>[]
 | v::vs=>(i,v)::mD (i+1) vs
theorem pO{κ:List Conc}:∀(vs:List SV) (i:Nat),eO κ (mD i vs)=enumFrom i (vs.map (SV.den κ))
 | [],i=>rfl
 | v::vs,i=>by
   have:=pO (κ:=κ) vs (i+1)
   unfold eO at this ⊢
   simp only[mD,List.map_cons,enumFrom,this]
def Spec(P:Program)(f:FuncId)(as:List SV)(its:List Item)(rs:SV)(aW:List Item):Prop:=
 ∀U0 κ w (gl:sw U0 (dD its κ) w),St its.length ⟨U0,dD its κ,w,κ,gl,fun _ _=>False⟩ (mD 0 as) its κ w→Calls P f (as.map (SV.den κ)).toArray w fun e w'=>∃κx,e = .returned (rs.den (κ++κx))∧St its.length ⟨U0,dD its κ,w,κ,gl,fun _ _=>False⟩ [(0,rs)] aW (κ++κx) w'
def F3(P:Program)(fn:Func)(n0:Nat)(fx:Fx)(rs:SV)(aW:List Item):Act→World→Prop:=
 Uw P fn fun e w'=>∃κx,e = .returned (rs.den (fx.κ0++κx))∧St n0 fx [(0,rs)] aW (fx.κ0++κx) w'
theorem Spec.enter{f:FuncId}{fn:Func}{c:Code}{as:List SV}{rs:SV}{N m:Nat}(hf:P.funcs[f]? = some fn)(hb:fn.body=some c)(hN:fn.ntmps=N)(hle:Nat.ble as.length N=true)(hm:its.length=m)
 (h:∀fx,Z P c (F3 P fn m fx rs aW) (fun _ _ _=>False) (F3 P fn m fx rs aW) N m fx (mD 0 as) its):Spec P f as its rs aW:=fun U0 κ w gl S=>by
 subst hm
 refine uS (px:=fun _ _=>False) hf hb hN (by simpa using hle) (fun _ _ h=>h.elim) ?_
 have:=h ⟨U0,dD its κ,w,κ,gl,fun _ _=>False⟩ κ w S
 rw[pO]at this
 exact this
def uV(tt:TT)(env:bO)(its:List Item):List ResultVar→Option (List SV)
 | []=>some []
 | .tmp t::r=>match yw t env,uV tt env its r with
   | some v,some vs=>some (v::vs)
   | _,_=>none
 | .cell p ty::r=>match yw p env,jd ty tt,uV tt env its r with
   | some (.c (.p i 0)),some ti,some vs=>(match its[i]? with
     | some (.k _ cs)=>(match ti.agg,cs with
       | true,cs=>(match Nat.beq cs.length ti.size with
         | true=>some (.g cs::vs)
         | false=>none)
       | false,[c]=>some (.c c::vs)
       | false,_=>none)
     | _=>none)
   | _,_,_=>none
theorem vE(bW:dQ P tt)(S:St n0 fx env its κ w):∀(rs:List ResultVar) {vs:List SV},uV tt env its rs=some vs→RVs P N (eO κ env) w rs (vs.map (SV.den κ))
 | [],vs,h=>by simp only[uV,Option.some.injEq]at h; subst h; trivial
 | .tmp t::r,vs,h=>by
   simp only[uV]at h
   split at h
   ·rename_i v vs' hv hr
    injection h with h; subst h
    exact⟨Nt (gP hv),vE bW S r hr⟩
   ·cases h
 | .cell p ty::r,vs,h=>by
   simp only[uV]at h
   split at h
   ·rename_i i ti vs' hp ht hr
    split at h
    ·rename_i T cs hi
     obtain⟨c,hc1,hc2⟩:=S.gJ hi
     cases c with
     | b n=>
       have hp':=gP (κ:=κ) hp
       simp only[SV.den,Cell.den,hc1]at hp'
       split at h
       ·rename_i ha
        split at h
        ·rename_i hl
         injection h with h; subst h
         exact⟨J5 (by rw[← ha]; exact(bW.get ht).agg) (bW.get ht).size hp' hc2 (by simpa using Nat.eq_of_beq_eq_true hl),vE bW S r hr⟩
        ·cases h
       ·rename_i c ha
        injection h with h; subst h
        exact⟨Ib (by rw[← ha]; exact(bW.get ht).agg) hp' hc2,vE bW S r hr⟩
       ·cases h
     | _=>exact hc2.elim
    ·cases h
   ·cases h
def oF:List SV→Option (List (Cell ⊕ List Cell))
 | []=>some []
 | .c x::r=>(oF r).map (.inl x :: ·)
 | .g l::r=>(oF r).map (.inr l :: ·)
 | _::_=>none
def EX:List SV→Option SV
 | [v]=>some v
 | vs=>(oF vs).map .u
theorem wz:∀{vs:List SV} {l:List (Cell ⊕ List Cell)},oF vs=some l→l.map (EJ κ)=vs.map (SV.den κ)
 | [],l,h=>by simp only[oF,Option.some.injEq]at h; subst h; rfl
 | .c x::r,l,h=>by
   simp only[oF]at h
   cases hr:oF r with
   | none=>simp[hr]at h
   | some q=>simp[hr]at h; subst h; simp[wz hr,EJ,SV.den]
 | .g x::r,l,h=>by
   simp only[oF]at h
   cases hr:oF r with
   | none=>simp[hr]at h
   | some q=>simp[hr]at h; subst h; simp[wz hr,EJ,SV.den]
 | .u _::_,l,h=>by cases h
 | .f _ _::_,l,h=>by cases h
theorem Ny{vs:List SV}{v:SV}(h:EX vs=some v):v.den κ=ng (vs.map (SV.den κ)):=by
 unfold EX at h
 split at h
 ·injection h with h; subst h; rfl
 ·rename_i hne
  cases hl:oF vs with
  | none=>simp[hl]at h
  | some l=>
    simp[hl]at h
    subst h
    have:=wz (κ:=κ) hl
    match vs,hne with
    | [],_=>simp[SV.den,ng,this]
    | [v],hne=>exact absurd rfl (hne v)
    | a::b::r,_=>simp[SV.den,ng,this]
theorem A.ret{a:Act}{fn:Func}{rs:SV}(bW:dQ P tt)(h:A N n0 fx env its a w)(js:List Jx)(hI:((ni js rs,(ni js rs).isSome),jg js aW)=(((uV tt env its fn.results.toList).bind EX,true),srcs its js aW))(hB:yS n0 its.length js [(0,rs)] aW (some []) (srcs its js aW)=true):F3 P fn n0 fx rs aW a w:=by
 obtain⟨κ,ha,S⟩:=h
 injection hI with h1 h2
 injection h1 with h1 h3
 have S':=S.view h2 hB
 simp only[yS,Bool.and_eq_true]at hB
 obtain⟨b1,b2,b3,b4,b5,b6,b7⟩:=hB
 obtain⟨sv,hsv⟩:=Option.isSome_iff_exists.1 h3
 rw[hsv]at h1
 cases hrs:uV tt env its fn.results.toList with
 | none=>simp[hrs]at h1
 | some vs=>
   simp only[hrs,Option.bind_some]at h1
   have hrun:=Cx (P:=P) (fn:=fn) (rs:=fn.results.toList) (by simp) (vE (N:=N) bW S _ hrs) ha
   have hden:rs.den (js.map (cJ κ))=ng (vs.map (SV.den κ)):=by
    rw[wL (by rw[S.len]; exact kR b2) hsv]
    exact Ny h1.symm
   refine⟨ha.defers,_,hrun,(js.map (cJ κ)).drop n0,?_,?_⟩
   ·rw[← S'.pre,List.take_append_drop,hden]
   ·rw[← S'.pre,List.take_append_drop]
    exact S'
theorem Z.ret{fn:Func}{rs:SV}(bW:dQ P tt)(js:List Jx)(hI:((ni js rs,(ni js rs).isSome),jg js aW)=(((uV tt env its fn.results.toList).bind EX,true),srcs its js aW))(hB:yS n0 its.length js [(0,rs)] aW (some []) (srcs its js aW)=true):Z P .ret Kn Ke (F3 P fn n0 fx rs aW) N n0 fx env its:=fun κ w S=>
 WC.ret fun a ha=>A.ret bW ⟨κ,ha,S⟩ js hI hB
end
end V
end Go.Proofs.YtbgfhaahhdnogaaGreat

namespace Go.Proofs.YtbgfhaahhdnogaaGreat
namespace V
def Jr(n m:Nat)(js:List Jx):Cell→Option Cell
 | .v x=>some (.v x)
 | .p j o=>match Nat.blt j m,js[j]? with
   | true,some (.g i)=>some (.p i o)
   | true,_=>none
   | false,_=>some (.p (n+(j - m)) o)
 | .s j=>match Nat.blt j m,js[j]? with
   | true,some (.g i)=>some (.s i)
   | true,some (.l i)=>some (.s i)
   | true,_=>none
   | false,_=>some (.s (n+(j - m)))
 | .t j=>match Nat.blt j m,js[j]? with
   | true,some (.g i)=>some (.t i)
   | true,_=>none
   | false,_=>some (.t (n+(j - m)))
 | .m j=>match Nat.blt j m,js[j]? with
   | true,some (.g i)=>some (.m i)
   | true,some (.l i)=>some (.m i)
   | true,_=>none
   | false,_=>some (.m (n+(j - m)))
 | .w fn j o=>match Nat.blt j m,js[j]? with
   | true,some (.g i)=>some (.w fn i o)
   | true,_=>none
   | false,_=>some (.w fn (n+(j - m)) o)
def JW(n m:Nat)(js:List Jx):List Cell→Option (List Cell)
 | []=>some []
 | c::r=>match Jr n m js c,JW n m js r with
   | some c,some r=>some (c::r)
   | _,_=>none
def Pm(n m:Nat)(js:List Jx):List (Cell ⊕ List Cell)→Option (List (Cell ⊕ List Cell))
 | []=>some []
 | .inl c::r=>match Jr n m js c,Pm n m js r with
   | some c,some r=>some (.inl c::r)
   | _,_=>none
 | .inr c::r=>match JW n m js c,Pm n m js r with
   | some c,some r=>some (.inr c::r)
   | _,_=>none
def Ru(n m:Nat)(js:List Jx):SV→Option SV
 | .c x=>(Jr n m js x).map .c
 | .g l=>(JW n m js l).map .g
 | .u l=>(Pm n m js l).map .u
 | .f fn l=>(JW n m js l).map (.f fn)
def UD(n m:Nat)(js:List Jx):List (Int×Cell)→Option (List (Int×Cell))
 | []=>some []
 | (x,c)::r=>match Jr n m js c,UD n m js r with
  | some c,some r=>some ((x,c)::r)
  | _,_=>none
def Cn(n m:Nat)(js:List Jx):Item→Option Item
 | .k T cs=>(JW n m js cs).map (.k T)
 | .lm k l=>(UD n m js l).map (.lm k)
 | .elt _ _ _=>none
 | it=>some it
def JX(n m:Nat)(js:List Jx):List Item→Option (List Item)
 | []=>some []
 | c::r=>match Cn n m js c,JX n m js r with
   | some c,some r=>some (c::r)
   | _,_=>none
def UC(n m:Nat)(js:List Jx):Item→Option Item
 | @Item.d _ _ _ _ _=>some .e
 | @Item.mp _ _ _ _ _ _=>some .e
 | it=>Cn n m js it
def qN(n m:Nat)(Qj:List Jx):List Jx→List Item→List Item→List Item→Option (List Item)
 | [],[],_,its=>some its
 | .g i::js,t::ts,u::us,its=>match t.owned with
   | true=>(match UC n m Qj u with
     | some u'=>qN n m Qj js ts us (its.set i u')
     | none=>none)
   | false=>qN n m Qj js ts us its
 | _::js,_::ts,_::us,its=>qN n m Qj js ts us its
 | _,_,_,_=>none
def zX(js:List Jx)(fZ iU its:List Item):Option (List Item):=
 match qN its.length fZ.length js js fZ iU its,JX its.length fZ.length js (iU.drop fZ.length)with
 | some a,some b=>some (a++b)
 | _,_=>none
def Fl{α:Type}(R:RT α):Prop:=∀(U U':Nat→Prop) (w:World) (cs:List Value) (x:α),R U w cs x→R U' w cs x
def FlO:Item→Prop
 | @Item.o _ _ _ R _ _=>Fl R
 | _=>True
def O6:Item→Prop
 | @Item.d _ _ _ _ _=>False
 | @Item.mp _ _ _ _ _ _=>False
 | .elt ..=>False
 | _=>True
def D7:Nat→List Item→Prop
 | _,[]=>True
 | m+1,u::us=>FlO u∧D7 m us
 | 0,u::us=>(FlO u∧O6 u)∧D7 0 us
theorem Fl.int{k:IntKind}:Fl (dx k):=fun _ _ _ _ _ h=>h
theorem Fl.bool:Fl DZ:=fun _ _ _ _ _ h=>h
def I5:List Jx→Bool
 | []=>false
 | .l _::_=>true
 | _::js=>I5 js
section
variable {P:Program} {N n0:Nat} {fx:Fx} {its aW:List Item} {κ:List Conc} {w:World} {env env':bO} {js:List Jx} {tt:TT}
theorem vB{κx:List Conc}(hl:κ.length=its.length)(hb:vk its.length js=true){c c':Cell}(h:Jr its.length js.length js c=some c'):c.den (js.map (cJ κ)++κx)=c'.den (κ++κx):=by
 have old:∀(j i:Nat),(js[j]? = some (.g i)∨js[j]? = some (.l i))→(js.map (cJ κ)++κx)[j]? = (κ++κx)[i]?:=by
  intro j i hj
  have hlt:i<κ.length:=by rw[hl]; exact kR hb j i (hj.elim .inl fun h=>.inr (.inl h))
  have hjl:j<js.length:=by rcases hj with h | h <;> exact(List.getElem?_eq_some_iff.1 h).1
  rw[List.getElem?_append_left (by rw[List.length_map]; exact hjl),List.getElem?_append_left hlt,List.getElem?_map]
  rcases hj with hj | hj <;> simp[hj,cJ,List.getElem?_eq_getElem hlt]
 have new:∀j,Nat.blt j js.length=false→(js.map (cJ κ)++κx)[j]? = (κ++κx)[its.length+(j - js.length)]?:=by
  intro j hj
  have hj':js.length≤j:=by
   rcases Nat.lt_or_ge j js.length with h | h
   ·have h2:Nat.blt j js.length=true:=by rw[Nat.blt_eq]; exact h
    rw[h2]at hj; cases hj
   ·exact h
  rw[List.getElem?_append_right (by rw[List.length_map]; exact hj'),List.getElem?_append_right (by omega),List.length_map,hl]
  congr 1
  omega
 cases c with
 | v x=>simp only[Jr,Option.some.injEq]at h; subst h; rfl
 | p j o=>
   simp only[Jr]at h
   split at h
   ·rename_i i hb hj
    injection h with h; subst h
    simp only[Cell.den,old j i (.inl hj)]
   ·cases h
   ·rename_i hb
    injection h with h; subst h
    simp only[Cell.den,new j hb]
 | w fn j o=>
   simp only[Jr]at h
   split at h
   ·rename_i i hb hj
    injection h with h; subst h
    simp only[Cell.den,old j i (.inl hj)]
   ·cases h
   ·rename_i hb
    injection h with h; subst h
    simp only[Cell.den,new j hb]
 | s j=>
   simp only[Jr]at h
   split at h
   ·rename_i i hb hj
    injection h with h; subst h
    simp only[Cell.den,old j i (.inl hj)]
   ·rename_i i hb hj
    injection h with h; subst h
    simp only[Cell.den,old j i (.inr hj)]
   ·cases h
   ·rename_i hb
    injection h with h; subst h
    simp only[Cell.den,new j hb]
 | t j=>
   simp only[Jr]at h
   split at h
   ·rename_i i hb hj
    injection h with h; subst h
    simp only[Cell.den,old j i (.inl hj)]
   ·cases h
   ·rename_i hb
    injection h with h; subst h
    simp only[Cell.den,new j hb]
 | m j=>
   simp only[Jr]at h
   split at h
   ·rename_i i hb hj
    injection h with h; subst h
    simp only[Cell.den,old j i (.inl hj)]
   ·rename_i i hb hj
    injection h with h; subst h
    simp only[Cell.den,old j i (.inr hj)]
   ·cases h
   ·rename_i hb
    injection h with h; subst h
    simp only[Cell.den,new j hb]
theorem qU{κx:List Conc}(hl:κ.length=its.length)(hb:vk its.length js=true):∀{l l':List Cell},JW its.length js.length js l=some l'→l.map (Cell.den (js.map (cJ κ)++κx))=l'.map (Cell.den (κ++κx))
 | [],l',h=>by simp only[JW,Option.some.injEq]at h; subst h; rfl
 | c::r,l',h=>by
   simp only[JW]at h
   split at h
   ·rename_i c' r' hc hr
    injection h with h; subst h
    simp only[List.map_cons,vB hl hb hc,qU hl hb hr]
   ·cases h
theorem Ah{κx:List Conc}(hl:κ.length=its.length)(hb:vk its.length js=true):∀{l l':List (Cell ⊕ List Cell)},Pm its.length js.length js l=some l'→l.map (EJ (js.map (cJ κ)++κx))=l'.map (EJ (κ++κx))
 | [],l',h=>by simp only[Pm,Option.some.injEq]at h; subst h; rfl
 | .inl c::r,l',h=>by
   simp only[Pm]at h
   split at h
   ·rename_i c' r' hc hr
    injection h with h; subst h
    simp only[List.map_cons,EJ,vB hl hb hc,Ah hl hb hr]
   ·cases h
 | .inr c::r,l',h=>by
   simp only[Pm]at h
   split at h
   ·rename_i c' r' hc hr
    injection h with h; subst h
    simp only[List.map_cons,EJ,qU hl hb hc,Ah hl hb hr]
   ·cases h
theorem Ng{κx:List Conc}(hl:κ.length=its.length)(hb:vk its.length js=true){x x':SV}(h:Ru its.length js.length js x=some x'):x.den (js.map (cJ κ)++κx)=x'.den (κ++κx):=by
 cases x with
 | c y=>
   simp only[Ru]at h
   cases hy:Jr its.length js.length js y with
   | none=>simp[hy]at h
   | some c=>simp[hy]at h; subst h; exact vB hl hb hy
 | g l=>
   simp only[Ru]at h
   cases hy:JW its.length js.length js l with
   | none=>simp[hy]at h
   | some c=>simp[hy]at h; subst h; simp only[SV.den,qU hl hb hy]
 | u l=>
   simp only[Ru]at h
   cases hy:Pm its.length js.length js l with
   | none=>simp[hy]at h
   | some c=>simp[hy]at h; subst h; simp only[SV.den,Ah hl hb hy]
 | f fn l=>
   simp only[Ru]at h
   cases hy:JW its.length js.length js l with
   | none=>simp[hy]at h
   | some c=>simp[hy]at h; subst h; simp only[SV.den,qU hl hb hy]
theorem sJ{n m:Nat}{Qj:List Jx}:∀{js:List Jx} {ts us its r:List Item},qN n m Qj js ts us its=some r→l6 (iE js ts)=true→
 r.length=its.length∧(∀i,i∉iE js ts→r[i]? = its[i]?)∧∀(k i:Nat) (t u:Item),js[k]? = some (.g i)→ts[k]? = some t→t.owned=true→us[k]? = some u→i<its.length→∃u',UC n m Qj u=some u'∧r[i]? = some u'
 | [],[],us,its,r,h,_=>by
   simp only[qN,Option.some.injEq]at h
   subst h
   exact⟨rfl,fun i _=>rfl,fun k i t u h=>by simp at h⟩
 | j::js,t::ts,u::us,its,r,h,hn=>by
   by_cases ho:∃i,j = .g i∧t.owned=true
   ·obtain⟨i,rfl,ho⟩:=ho
    simp only[qN,ho]at h
    split at h
    ·rename_i u' hu
     simp only[iE,ho,l6,Bool.and_eq_true,Bool.not_eq_true']at hn
     obtain⟨h1,h2,h3⟩:=sJ h hn.2
     have hni:i∉iE js ts:=fun e=>by rw[lH.2 e]at hn; cases hn.1
     refine⟨by simpa using h1,fun q hq=>?_,fun k q t2 u2 hk ht hto hu2 hql=>?_⟩
     ·simp only[iE,ho,List.mem_cons,not_or]at hq
      rw[h2 q hq.2,List.getElem?_set_ne (fun e=>hq.1 e.symm)]
     ·cases k with
      | zero=>
        simp at hk ht hu2
        subst hk; subst ht; subst hu2
        exact⟨u',hu,by rw[h2 i hni,List.getElem?_set_self hql]⟩
      | succ k=>
        simp only[List.getElem?_cons_succ]at hk ht hu2
        exact h3 k q t2 u2 hk ht hto hu2 (by simpa using hql)
    ·cases h
   ·have hown:iE (j::js) (t::ts)=iE js ts:=by
     cases j with
     | g i=>
       have:t.owned=false:=by
        cases hh:t.owned with
        | false=>rfl
        | true=>exact absurd ⟨i,rfl,hh⟩ ho
       simp only[iE,this]
     | _=>rfl
    have hturn:qN n m Qj js ts us its=some r:=by
     cases j with
     | g i=>
       have:t.owned=false:=by
        cases hh:t.owned with
        | false=>rfl
        | true=>exact absurd ⟨i,rfl,hh⟩ ho
       simpa only[qN,this]using h
     | _=>exact h
    rw[hown]at hn ⊢
    obtain⟨h1,h2,h3⟩:=sJ hturn hn
    refine⟨h1,h2,fun k q t2 u2 hk ht hto hu2 hql=>?_⟩
    cases k with
    | zero=>
      simp at hk ht
      subst hk; subst ht
      exact absurd ⟨q,rfl,hto⟩ ho
    | succ k=>
      simp only[List.getElem?_cons_succ]at hk ht hu2
      exact h3 k q t2 u2 hk ht hto hu2 hql
 | [],_::_,us,its,r,h,_=>by cases h
 | j::js,[],us,its,r,h,_=>by cases j <;> cases h
 | j::js,t::ts,[],its,r,h,_=>by cases j <;> cases h
theorem Cm{n m:Nat}:∀{l r:List Item},JX n m js l=some r→r.length=l.length∧∀(k:Nat) (u:Item),r[k]? = some u→∃u0,l[k]? = some u0∧Cn n m js u0=some u
 | [],r,h=>by
   simp only[JX,Option.some.injEq]at h
   subst h
   exact⟨rfl,fun k u h=>by simp at h⟩
 | c::l,r,h=>by
   simp only[JX]at h
   split at h
   ·rename_i c' r' hc hr
    injection h with h; subst h
    obtain⟨h1,h2⟩:=Cm hr
    refine⟨by simp[h1],fun k u hk=>?_⟩
    cases k with
    | zero=>simp at hk; subst hk; exact⟨c,rfl,hc⟩
    | succ k=>
      simp only[List.getElem?_cons_succ]at hk ⊢
      exact h2 k u hk
   ·cases h
theorem ug:∀{m:Nat} {l:List Item},D7 m l→∀(k:Nat) (u:Item),l[k]? = some u→FlO u∧(m≤k→O6 u)
 | _,[],_,k,u,hk=>by simp at hk
 | m+1,x::l,h,0,u,hk=>by
   simp at hk; subst hk
   exact⟨h.1,fun h=>by omega⟩
 | m+1,x::l,h,k+1,u,hk=>by
   simp only[List.getElem?_cons_succ]at hk
   have:=ug h.2 k u hk
   exact⟨this.1,fun h=>this.2 (by omega)⟩
 | 0,x::l,h,0,u,hk=>by
   simp at hk; subst hk
   exact⟨h.1.1,fun _=>h.1.2⟩
 | 0,x::l,h,k+1,u,hk=>by
   simp only[List.getElem?_cons_succ]at hk
   have:=ug h.2 k u hk
   exact⟨this.1,fun h=>this.2 (by omega)⟩
theorem Own.fl{α:Type}{sz:Nat}{E:TypeId}{R:RT α} [dG R](hf:Fl R){U U':Nat→Prop}{A:Option Addr}{c:Nat}{d:List α}(h:Own sz E R U w A c d):Own sz E R U' w A c d:=by
 obtain⟨xs,hown,he⟩:=h
 have els:∀(l:List α) (es:List Value),dZ sz R U w es l→dZ sz R U' w es l:=by
  intro l
  induction l with
  | nil=>intro es h; exact h
  | cons x xs ih=>
    intro es h
    obtain⟨e1,e2,h1,h2,h3,h4⟩:=h
    exact⟨e1,e2,h1,h2,hf _ _ _ _ _ h3,ih e2 h4⟩
 exact⟨xs,hown,els _ _ he⟩
theorem Gg{κx:List Conc}(hl:κ.length=its.length)(hb:vk its.length js=true):∀{l l':List (Int×Cell)},UD its.length js.length js l=some l'→(l.map fun p=>(p.1,p.2.den (js.map (cJ κ)++κx)))=l'.map fun p=>(p.1,p.2.den (κ++κx))
 | [],l',h=>by simp only[UD,Option.some.injEq]at h; subst h; rfl
 | (x,c)::r,l',h=>by
  simp only[UD]at h
  split at h
  ·rename_i c' r' hc hr
   injection h with h; subst h
   simp only[List.map_cons,vB hl hb hc,Gg hl hb hr]
  ·cases h
theorem GN{k:IntKind}{U U':Nat→Prop}{w w':World}:∀(l:List (Int×Value)) (es:List MapEntry),jc k RV U w es l→jc k RV U' w' es l
 | [],_,h=>h
 | _::xs,_,h=>by
   obtain⟨e,es',rfl,hk,hr,ht⟩:=h
   exact⟨e,es',rfl,hk,hr,GN xs es' ht⟩
theorem VL{κx:List Conc}(hl:κ.length=its.length)(hb:vk its.length js=true){u u':Item}{c:Conc}{U U':Nat→Prop}{w':World}(hs:Cn its.length js.length js u=some u')(h:OK (js.map (cJ κ)++κx) U w' u c)(hU:(∀b,U' b→U b)∨(FlO u∧O6 u)):OK (κ++κx) U' w' u' c∧gT u' c=gT u c∧u'.ow=false:=by
 cases u with
 | k T cs=>
   cases hr:JW its.length js.length js cs with
   | none=>simp[Cn,hr]at hs
   | some cs'=>
     simp only[Cn,hr,Option.map_some,Option.some.injEq]at hs
     subst hs
     cases c with
     | b n=>
       refine⟨?_,rfl,rfl⟩
       simp only[OK]at h ⊢
       rw[qU hl hb hr]at h
       exact h
     | _=>exact h.elim
 | lm k l=>
   cases hr:UD its.length js.length js l with
   | none=>simp[Cn,hr]at hs
   | some l'=>
     simp only[Cn,hr,Option.map_some,Option.some.injEq]at hs
     subst hs
     cases c with
     | m b=>
       refine⟨?_,rfl,rfl⟩
       simp only[OK]at h ⊢
       rw[Gg hl hb hr]at h
       obtain⟨n,rfl,es,clock,h1,h2⟩:=h
       exact⟨n,rfl,es,clock,h1,GN _ _ h2⟩
     | _=>exact h.elim
 | elt s ow cs=>cases hs
 | o sz E R l=>
   simp only[Cn,Option.some.injEq]at hs
   subst hs
   cases c with
   | r A n c=>
     refine⟨⟨h.1,?_⟩,rfl,rfl⟩
     rcases hU with hU | hU
     ·exact h.2.mu hU
     ·exact h.2.fl hU.1
   | _=>exact h.elim
 | d sz R l=>
   simp only[Cn,Option.some.injEq]at hs
   subst hs
   cases c with
   | r A n c=>
     refine⟨⟨h.1,?_⟩,rfl,rfl⟩
     rcases hU with hU | hU
     ·exact h.2.mu hU
     ·exact hU.2.elim
   | _=>exact h.elim
 | str s=>
   simp only[Cn,Option.some.injEq]at hs
   subst hs
   cases c with
   | s x=>exact⟨h,rfl,rfl⟩
   | _=>exact h.elim
 | mp k R ow l=>
   simp only[Cn,Option.some.injEq]at hs
   subst hs
   rcases hU with hU | hU
   ·cases c with
    | m b=>
      refine⟨?_,rfl,rfl⟩
      cases ow with
      | true=>
        simp only[OK]at h ⊢
        obtain⟨n,rfl,hm⟩:=h
        exact⟨n,rfl,hm.step rfl (fun _ _ _=>rfl) (fun b _=>hU b)⟩
      | false=>
        simp only[OK]at h ⊢
        rcases h with h | ⟨n,rfl,hn,hm⟩
        ·exact .inl h
        ·exact .inr ⟨n,rfl,fun q=>hn (hU n q),hm.step rfl (fun _ _ _=>rfl) (fun b _=>hU b)⟩
    | _=>cases ow <;> exact h.elim
   ·exact hU.2.elim
 | DJ=>
   simp only[Cn,Option.some.injEq]at hs
   subst hs
   cases c with
   | b n=>exact⟨trivial,rfl,rfl⟩
   | _=>exact h.elim
 | e=>
   simp only[Cn,Option.some.injEq]at hs
   subst hs
   exact⟨trivial,by cases c <;> rfl,rfl⟩
end
end V
end Go.Proofs.YtbgfhaahhdnogaaGreat

namespace Go.Proofs.YtbgfhaahhdnogaaGreat
namespace V
def II(env:bO):List Operand→Option (List SV)
 | []=>some []
 | x::r=>match iM env x,II env r with
   | some v,some vs=>some (v::vs)
   | _,_=>none
def OX(env:bO):Op→Option (FuncId×List SV)
 | .call ⟨.value (.func f),as,_⟩=>match II env as.toList with
   | some vs=>some (f,vs)
   | none=>none
 | .call ⟨.value (.tmp s),as,_⟩=>match yw s env,II env as.toList with
   | some (.f f caps),some vs=>some (f,vs++caps.map .c)
   | some (.c (.w f i o)),some vs=>some (f,vp i o::vs)
   | some (.c (.v (.func (.func f) ⟨[]⟩ ⟨[]⟩))),some vs=>some (f,vs)
   | _,_=>none
 | _=>none
def wK(js:List Jx):List SV→Option (List SV)
 | []=>some []
 | x::r=>match ni js x,wK js r with
   | some v,some vs=>some (v::vs)
   | _,_=>none
def noZ:List Jx→Bool
 | []=>true
 | .z _::_=>false
 | _::js=>noZ js
def cB(its:List Item)(js:List Jx)(Md:List SV)(fZ:List Item):Bool:=
 vk its.length js&&(okG js fZ&&(sN fZ.length (mD 0 Md)&&(mH fZ.length fZ&&((srcs its js fZ).isSome&&(!its.any Item.ow&&noZ js)))))
def cB2(kF:Option (List Item))(v:SV):Bool:=match kF with
 | some l=>v.lt l.length&&mH l.length l
 | none=>false
section
variable {P:Program} {N n0:Nat} {fx:Fx} {its aW:List Item} {κ:List Conc} {w:World} {env env':bO} {js:List Jx} {tt:TT} {ops:Array Oper} {rest:List Oper} {Kn:Act→World→Prop} {Ke:Nat→Act→World→Prop} {Kr:Act→World→Prop}
theorem M.norm{bN:List Item}(h:its=bN)(hk:M P ops rest Kn N n0 fx env bN):M P ops rest Kn N n0 fx env its:=h▸hk
theorem Z.norm{bN:List Item}{c:Code}(h:its=bN)(hk:Z P c Kn Ke Kr N n0 fx env bN):Z P c Kn Ke Kr N n0 fx env its:=h▸hk
theorem nH:∀(as:List Operand) {vs:List SV},II env as=some vs→as.mapM (ev (eO κ env))=some (vs.map (SV.den κ))
 | [],vs,h=>by simp only[II,Option.some.injEq]at h; subst h; rfl
 | x::r,vs,h=>by
   simp only[II]at h
   split at h
   ·rename_i v vs' hv hr
    injection h with h; subst h
    simp[List.mapM_cons,eD hv,nH r hr]
   ·cases h
theorem zf(hb:∀(j i:Nat),js[j]? = some (.g i)∨js[j]? = some (.l i)∨js[j]? = some (.z i)→i<κ.length):∀{l l':List SV},wK js l=some l'→l.map (SV.den (js.map (cJ κ)))=l'.map (SV.den κ)
 | [],l',h=>by simp only[wK,Option.some.injEq]at h; subst h; rfl
 | c::r,l',h=>by
   simp only[wK]at h
   split at h
   ·rename_i c' r' hc hr
    injection h with h; subst h
    simp only[List.map_cons,wL hb hc,zf hb hr]
   ·cases h
theorem LM{o:Oper}{f:FuncId}{as:List SV}(hc:∀args w,(callFunc f args).run P w = .ok (.enter f args) w)(h:OX env o.op=some (f,as)):Mx P N (eO κ env) o w f (as.map (SV.den κ)).toArray:=by
 obtain⟨d,op,t,ps,af,g⟩:=o
 unfold OX at h
 simp only at h
 split at h
 ·rename_i f' args ts
  split at h
  ·rename_i vs hv
   simp only[Option.some.injEq,Prod.mk.injEq]at h
   obtain⟨rfl,rfl⟩:=h
   obtain⟨args⟩:=args
   exact NG hc (nH args hv)
  ·cases h
 ·rename_i s args ts
  split at h
  ·rename_i f' caps vs hs hv
   simp only[Option.some.injEq,Prod.mk.injEq]at h
   obtain⟨rfl,rfl⟩:=h
   obtain⟨args⟩:=args
   have hl:=gP (κ:=κ) hs
   simp only[SV.den]at hl
   have:=Kh (d:=d) (t:=t) (ps:=ps) (af:=af) (g:=g) (ats:=ts) (N:=N) (w:=w) hc hl (nH args hv)
   have e:(vs++caps.map SV.c).map (SV.den κ)=vs.map (SV.den κ)++caps.map (Cell.den κ):=by
    rw[List.map_append,List.map_map]
    rfl
   rw[e]
   exact this
  ·rename_i f' i o vs hs hv
   simp only[Option.some.injEq,Prod.mk.injEq]at h
   obtain⟨rfl,rfl⟩:=h
   obtain⟨args⟩:=args
   have hl:=gP (κ:=κ) hs
   have hl2:lk s (eO κ env)=some (.func (.func f') #[(vp i o).den κ] #[]):=hl
   exact ND (d:=d) (t:=t) (ps:=ps) (af:=af) (g:=g) (ats:=ts) (N:=N) (w:=w) hc hl2 (nH args hv)
  ·rename_i f' vs hs hv
   simp only[Option.some.injEq,Prod.mk.injEq]at h
   obtain⟨rfl,rfl⟩:=h
   obtain⟨args⟩:=args
   have hl:=gP (κ:=κ) hs
   have hl2:lk s (eO κ env)=some (.func (.func f') #[] ([]:List Value).toArray):=hl
   have:=Kh (d:=d) (t:=t) (ps:=ps) (af:=af) (g:=g) (ats:=ts) (N:=N) (w:=w) hc hl2 (nH args hv)
   rw[List.append_nil]at this
   exact this
  ·cases h
 ·cases h
theorem Ctx.sub{U0:Nat→Prop}{X0:List (Option Nat)}{w0 w:World}{L L' Lc:List (Option Nat)}(C:Ctx U0 X0 w0 L w)(h1:∀b,some b∈L'→some b∈L)(h2:∀b,some b∈Lc→some b∈L∧some b∉L')(h3:∀(i j b:Nat),i≠j→Lc[i]? = some (some b)→Lc[j]? = some (some b)→False):Ctx (Mu U0 L') Lc w Lc w:=
 ⟨Step.refl,fun b hb=>C.lt b (Mu.weaken h1 b hb),fun b hb=>⟨(C.live b (h2 b hb).1).1,fun hM=>hM.elim (C.live b (h2 b hb).1).2.1 (h2 b hb).2,.inr hb⟩,h3⟩
theorem Ctx.back{U0:Nat→Prop}{X0:List (Option Nat)}{w0 w w':World}{L L' Lc R Lf:List (Option Nat)}(C:Ctx U0 X0 w0 L w)(D:Ctx (Mu U0 L') Lc w R w')(h2:∀b,some b∈Lc→some b∈L)(hf:∀b,some b∈Lf→some b∈R∨some b∈L)(hs:∀(i j b:Nat),i≠j→Lf[i]? = some (some b)→Lf[j]? = some (some b)→False):Ctx U0 X0 w0 Lf w'∧TR U0 L w Lf w' Lc:=by
 have hR:∀b,some b∈R→b<w'.heap.size∧¬ U0 b∧(w.heap.size≤b∨some b∈L):=fun b hb=>by
  obtain⟨g1,g2,g3⟩:=D.live b hb
  exact⟨g1,fun h=>g2 (.inl h),g3.imp id (h2 b)⟩
 refine⟨⟨⟨D.step.os.trans C.step.os,D.step.tape.trans C.step.tape,D.step.output.trans C.step.output,Nat.le_trans C.step.size D.step.size,fun b hb hX=>?_⟩,C.u0,fun b hb=>?_,hs⟩,⟨D.step.size,D.step.block,h2,fun b hb hM=>?_⟩⟩
 ·have hlt:b<w.heap.size:=Nat.lt_of_lt_of_le hb C.step.size
  rw[D.step.block b hlt (fun hL=>?_)]
  ·exact C.step.block b hb hX
  ·rcases(C.live b (h2 b hL)).2.2 with h | h
   ·omega
   ·exact hX h
 ·rcases hf b hb with h | h
  ·obtain⟨g1,g2,g3⟩:=hR b h
   refine⟨g1,g2,?_⟩
   rcases g3 with g3 | g3
   ·exact .inl (Nat.le_trans C.step.size g3)
   ·exact(C.live b g3).2.2
  ·obtain⟨g1,g2,g3⟩:=C.live b h
   exact⟨Nat.lt_of_lt_of_le g1 D.step.size,g2,g3⟩
 ·rcases hM with h | h
  ·exact .inl h
  ·rcases hf b h with h | h
   ·rcases(hR b h).2.2 with h | h
    ·omega
    ·exact .inr h
   ·exact .inr h
theorem Ud{f:FuncId}{o:Oper}{Md as:List SV}{fZ iU:List Item}{VP:SV}(hc:∀args w,(callFunc f args).run P w = .ok (.enter f args) w)(spec:Spec P f Md fZ VP iU)(js:List Jx)(v:SV)
 (hA:((OX env o.op,jg js fZ),Ru its.length fZ.length js VP)=(((wK js Md).map fun as=>(f,as),srcs its js fZ),some v)) (hS:wK js Md=some as) (hB:cB its js Md fZ=true) (hB2:cB2 (zX js fZ iU its) v=true) (hF:I5 js=false∨D7 fZ.length iU) :
 Eff P N n0 fx env its o (some v) ((zX js fZ iU its).getD []):=fun κ w S a ha=>by
 injection hA with hA hv
 injection hA with TL hI
 rw[hS]at TL
 simp only[Option.map_some]at TL
 simp only[cB,Bool.and_eq_true,Bool.not_eq_true']at hB
 obtain⟨b1,b2,b3,b4,b5,how,b7⟩:=hB
 obtain⟨r,hr⟩:=Option.isSome_iff_exists.1 b5
 rw[hr]at hI
 obtain⟨hlen,hget⟩:=qQ hr hI
 simp only[okG,Bool.and_eq_true]at b2
 obtain⟨hnd,hfz⟩:=b2
 cases hback:zX js fZ iU its with
 | none=>rw[hback]at hB2; cases hB2
 | some kF=>
 rw[hback]at hB2
 simp only[cB2,Bool.and_eq_true]at hB2
 obtain⟨hvl,X7⟩:=hB2
 simp only[Option.getD_some]
 unfold zX at hback
 split at hback
 case h_2=>cases hback
 rename_i aa bb hturn X5
 injection hback with hback
 subst hback
 rw[← hlen]at hturn X5 hv
 obtain⟨t1,t2,t3⟩:=sJ hturn hnd
 obtain⟨s1,s2⟩:=Cm X5
 have hbk:∀(j i:Nat),js[j]? = some (.g i)∨js[j]? = some (.l i)∨js[j]? = some (.z i)→i<its.length:=kR b1
 let Lc:=dD fZ (js.map (cJ κ))
 let L':List (Option Nat):=(List.range its.length).map fun i=>if i∈iE js fZ∨i∈xP js then none else((dD its κ)[i]?).join
 have lM:∀(j b:Nat),Lc[j]? = some (some b)→∃i t,js[j]? = some (.g i)∧fZ[j]? = some t∧t.owned=true∧(dD its κ)[i]? = some (some b):=fun j b h=>BU hr hI b1 S.len h
 have FK:∀b,some b∈L'→∃i,i∉iE js fZ∧i∉xP js∧(dD its κ)[i]? = some (some b):=by
  intro b hb
  obtain⟨i,hi,he⟩:=List.mem_map.1 hb
  split at he
  ·cases he
  ·rename_i hn
   exact⟨i,fun h=>hn (.inl h),fun h=>hn (.inr h),join_some he⟩
 have FJ:∀b,some b∈L'→some b∈dD its κ:=fun b hb=>by
  obtain⟨i,_,_,h⟩:=FK b hb
  exact List.mem_of_getElem? h
 have hLc:∀b,some b∈Lc→some b∈dD its κ∧some b∉L':=by
  intro b hb
  obtain⟨j,hj⟩:=List.getElem?_of_mem hb
  obtain⟨i,t,g1,g2,g3,g4⟩:=lM j b hj
  refine⟨List.mem_of_getElem? g4,fun h=>?_⟩
  obtain⟨i',h1,_,h3⟩:=FK b h
  by_cases e:i=i'
  ·subst e; exact h1 (iY g1 g2 g3)
  ·exact S.ctx.sep i i' b e g4 h3
 have TN:∀(i j b:Nat),i≠j→Lc[i]? = some (some b)→Lc[j]? = some (some b)→False:=by
  intro j k b hjk hj hk
  obtain⟨i,t,g1,g2,g3,g4⟩:=lM j b hj
  obtain⟨i',t',g1',g2',g3',g4'⟩:=lM k b hk
  by_cases e:i=i'
  ·subst e
   exact hjk (wU hnd g1 g2 g3 g1' g2' g3')
  ·exact S.ctx.sep i i' b e g4 g4'
 have C0:=S.ctx.sub FJ hLc TN
 have hsub:∀b,some b∈Lc++L'→some b∈dD its κ:=fun b hb=>(List.mem_append.1 hb).elim (fun h=>(hLc b h).1) (FJ b)
 have hzz:∀(k i b:Nat),(js[k]? = some (.z i)∨js[k]? = some (.l i))→(dD its κ)[i]? = some (some b)→some b∉Lc++L':=by
  intro k i b hk hi hb
  rcases List.mem_append.1 hb with h | h
  ·obtain⟨j,hj⟩:=List.getElem?_of_mem h
   obtain⟨i',t,g1,g2,g3,g4⟩:=lM j b hj
   have e:i=i':=by
    by_cases e:i=i'
    ·exact e
    ·exact(S.ctx.sep i i' b e hi g4).elim
   subst e
   rw[List.all_eq_true]at hfz
   have:=hfz i (rR hk)
   rw[lH.2 (iY g1 g2 g3)]at this
   cases this
  ·obtain⟨i',h1,h2,h3⟩:=FK b h
   by_cases e:i=i'
   ·subst e; exact h2 (rR hk)
   ·exact S.ctx.sep i i' b e hi h3
 have hUeq:∀b,Mu (Mu fx.U0 L') Lc b→Mu fx.U0 (Lc++L') b:=by
  rintro b ((h | h) | h)
  ·exact .inl h
  ·exact .inr (List.mem_append.2 (.inr h))
  ·exact .inr (List.mem_append.2 (.inl h))
 have glc:sw (Mu fx.U0 L') Lc w:=fun p hp=>by
  obtain⟨g0,g1,g2,g3⟩:=fx.gl.now S.ctx p hp
  exact⟨g0,fun h=>h.elim g1 fun hm=>g2 (FJ p.1 hm),fun hm=>g2 (hLc p.1 hm).1,g3⟩
 have SC0:St fZ.length ⟨Mu fx.U0 L',Lc,w,js.map (cJ κ),glc,fun _ _=>False⟩ (mD 0 Md) fZ (js.map (cJ κ)) w:=by
  refine⟨by rw[List.length_map]; exact hlen,by rw[← hlen,← List.length_map (f:=cJ κ)]; exact List.take_length,by rw[List.length_map,hlen]; exact Nat.le_refl _,b3,b4,C0,fun j t c h1 h2=>?_⟩
  obtain⟨jx,x,g1,g2,g3⟩:=hget j t h1
  rw[List.getElem?_map,g1]at h2
  simp only[Option.map_some,Option.some.injEq]at h2
  subst h2
  have h4:=F7 S b1 hsub hzz g1 g2 g3
  have hlt:t.lt (js.map (cJ κ)).length=true:=by
   rw[List.length_map,hlen]
   unfold mH at b4
   rw[List.all_eq_true]at b4
   exact b4 _ (List.mem_of_getElem? h1)
  have h5:=OK.ext (κx:=[]) hlt hUeq h4
  rwa [List.append_nil]at h5
 have K7:=spec (Mu fx.U0 L') (js.map (cJ κ)) w glc SC0
 have hbκ:∀(j i:Nat),js[j]? = some (.g i)∨js[j]? = some (.l i)∨js[j]? = some (.z i)→i<κ.length:=by rw[S.len]; exact hbk
 rw[zf hbκ hS]at K7
 refine .inr (.inr ⟨f,_,LM hc TL a ha,Calls.mono K7 ?_⟩)
 rintro e w' ⟨κx,rfl,S'⟩
 refine⟨_,rfl,κx,fun x hx=>?_,?_⟩
 ·injection hx with hx
  subst hx
  rw[Ng S.len b1 hv]
 have zO:(js.map (cJ κ)++κx).length=iU.length:=S'.len
 have hm:js.length≤iU.length:=by rw[← zO,List.length_append,List.length_map]; omega
 have hbbl:bb.length=κx.length:=by
  rw[s1,List.length_drop,← zO,List.length_append,List.length_map]
  omega
 let R:=dD iU (js.map (cJ κ)++κx)
 have D:Ctx (Mu fx.U0 L') Lc w R w':=S'.ctx
 have item:∀(p:Nat) (it:Item) (c:Conc),(aa++bb)[p]? = some it→(κ++κx)[p]? = some c→
  (p<its.length∧p∉iE js fZ∧its[p]? = some it∧κ[p]? = some c)∨∃(k:Nat) (u:Item),iU[k]? = some u∧(js.map (cJ κ)++κx)[k]? = some c∧((p<its.length∧js[k]? = some (.g p)∧UC its.length js.length js u=some it)∨(its.length≤p∧k=js.length+(p - its.length)∧Cn its.length js.length js u=some it)):=by
  intro p it c h1 h2
  rcases Nat.lt_or_ge p its.length with hlt | hge
  ·rw[List.getElem?_append_left (by rw[t1]; exact hlt)]at h1
   rw[List.getElem?_append_left (by rw[S.len]; exact hlt)]at h2
   by_cases ho:p∈iE js fZ
   ·right
    have:∃(k:Nat) (t:Item),js[k]? = some (.g p)∧fZ[k]? = some t∧t.owned=true:=by
     have gen:∀{js:List Jx} {ts:List Item},p∈iE js ts→∃(k:Nat) (t:Item),js[k]? = some (.g p)∧ts[k]? = some t∧t.owned=true:=by
      intro js
      induction js with
      | nil=>intro ts h; cases ts <;> cases h
      | cons j js ih=>
        intro ts h
        cases ts with
        | nil=>cases j <;> cases h
        | cons t ts=>
          have R4:p∈iE js ts→∃(k:Nat) (t':Item),(j::js)[k]? = some (.g p)∧(t::ts)[k]? = some t'∧t'.owned=true:=fun h=>by
           obtain⟨k,t',h1,h2,h3⟩:=ih h
           exact⟨k+1,t',by simpa using h1,by simpa using h2,h3⟩
          cases j with
          | g q=>
            simp only[iE]at h
            split at h
            ·rename_i ho
             rcases List.mem_cons.1 h with rfl | h
             ·exact⟨0,t,rfl,rfl,ho⟩
             ·exact R4 h
            ·exact R4 h
          | _=>exact R4 h
     exact gen ho
    obtain⟨k,t,g1,g2,g3⟩:=this
    have hk:k<js.length:=(List.getElem?_eq_some_iff.1 g1).1
    have hu:iU[k]? = some iU[k]:=List.getElem?_eq_getElem (by omega)
    obtain⟨u',g4,g5⟩:=t3 k p t _ g1 g2 g3 hu hlt
    rw[g5]at h1
    injection h1 with h1
    subst h1
    refine⟨k,_,hu,?_,.inl ⟨hlt,g1,g4⟩⟩
    rw[List.getElem?_append_left (by rw[List.length_map]; exact hk),List.getElem?_map,g1]
    simp[cJ,h2]
   ·left
    rw[t2 p ho]at h1
    exact⟨hlt,ho,h1,h2⟩
  ·right
   rw[List.getElem?_append_right (by rw[t1]; exact hge),t1]at h1
   rw[List.getElem?_append_right (by rw[S.len]; exact hge),S.len]at h2
   obtain⟨u0,g1,g2⟩:=s2 _ it h1
   rw[List.getElem?_drop]at g1
   refine⟨_,u0,g1,?_,.inr ⟨hge,rfl,g2⟩⟩
   rw[List.getElem?_append_right (by rw[List.length_map]; omega),List.length_map]
   rw[show js.length+(p - its.length) - js.length=p - its.length from by omega]
   exact h2
 have hfrz:I5 js=false→xP js=[]:=by
  have gen:∀{js:List Jx},I5 js=false→noZ js=true→xP js=[]:=by
   intro js
   induction js with
   | nil=>intro _ _; rfl
   | cons j js ih=>intro h1 h2; cases j <;> first | exact ih h1 h2 | cases h1 | cases h2
  exact fun h=>gen h b7
 have shown:∀(k:Nat) (u it:Item) (c:Conc) (Lf:List (Option Nat)),(∀b,some b∈Lf→some b∈R∨∃i:Nat,i∉iE js fZ∧(dD its κ)[i]? = some (some b))→iU[k]? = some u→(js.map (cJ κ)++κx)[k]? = some c→(Cn its.length js.length js u=some it∧js.length≤k∨UC its.length js.length js u=some it)→
  OK (κ++κx) (Mu fx.U0 Lf) w' it c∧(∀b,gT it c=some b→gT u c=some b)∧it.ow=false:=by
  intro k u it c Lf Yj h1 h2 h3
  have hU:I5 js=false→∀b,Mu fx.U0 Lf b→Mu (Mu fx.U0 L') R b:=by
   intro hF b hM
   rcases hM with h | h
   ·exact .inl (.inl h)
   ·rcases Yj b h with h | ⟨i,h5,h6⟩
    ·exact .inr h
    ·refine .inl (.inr ?_)
     have hi:i<its.length:=by
      have:=(List.getElem?_eq_some_iff.1 h6).1
      simp only[dD,List.length_zipWith]at this
      omega
     refine List.mem_map.2 ⟨i,List.mem_range.2 hi,?_⟩
     rw[hfrz hF,if_neg (by simp[h5]),h6]
     rfl
  have main:Cn its.length js.length js u=some it→(O6 u∨js.length≤k)→OK (κ++κx) (Mu fx.U0 Lf) w' it c∧(∀b,gT it c=some b→gT u c=some b)∧it.ow=false:=by
   intro h3 h4
   have:=VL S.len b1 h3 (S'.ok k u c h1 h2) (U':=Mu fx.U0 Lf) (by
    rcases hF with hF | hF
    ·exact .inl (hU hF)
    ·have h5:=ug hF k u h1
     exact .inr ⟨h5.1,h4.elim id fun h=>h5.2 (by rw[← hlen]; exact h)⟩)
   exact⟨this.1,fun b hb=>by rw[← this.2.1]; exact hb,this.2.2⟩
  rcases h3 with⟨h3,h4⟩ | h3
  ·exact main h3 (.inr h4)
  ·cases u with
   | d sz R0 l=>
     simp only[UC,Option.some.injEq]at h3
     subst h3
     exact⟨by cases c <;> trivial,fun b hb=>(by cases c <;> cases hb),rfl⟩
   | mp kk R0 ow l=>
     simp only[UC,Option.some.injEq]at h3
     subst h3
     exact⟨by cases c <;> trivial,fun b hb=>(by cases c <;> cases hb),rfl⟩
   | elt s ow cs=>cases h3
   | k T cs=>exact main h3 (.inl trivial)
   | lm kk l=>exact main h3 (.inl trivial)
   | o sz E R0 l=>exact main h3 (.inl trivial)
   | str s=>exact main h3 (.inl trivial)
   | DJ=>exact main h3 (.inl trivial)
   | e=>exact main h3 (.inl trivial)
 have Yj:∀(p b:Nat),(dD (aa++bb) (κ++κx))[p]? = some (some b)→(p∉iE js fZ∧(dD its κ)[p]? = some (some b))∨∃k:Nat,R[k]? = some (some b)∧((js[k]? = some (.g p)∧p<its.length)∨(its.length≤p∧k=js.length+(p - its.length))):=by
  intro p b h
  obtain⟨it,c,h1,h2,h3⟩:=vR h
  rcases item p it c h1 h2 with⟨g1,g2,g3,g4⟩ | ⟨k,u,g1,g2,g3⟩
  ·left
   refine⟨g2,?_⟩
   rw[cu g3 g4,h3]
  ·right
   have h4:=shown k u it c R (fun b hb=>.inl hb) g1 g2 (by
    rcases g3 with⟨_,_,h⟩ | ⟨_,hk,h⟩
    ·exact .inr h
    ·exact .inl ⟨h,by omega⟩)
   refine⟨k,?_,?_⟩
   ·rw[cu g1 g2,h4.2.1 b h3]
   ·rcases g3 with⟨g3,g4,_⟩ | ⟨g3,g4,_⟩
    ·exact .inl ⟨g4,g3⟩
    ·exact .inr ⟨g3,g4⟩
 have La:∀b,some b∈dD (aa++bb) (κ++κx)→some b∈R∨∃i:Nat,i∉iE js fZ∧(dD its κ)[i]? = some (some b):=by
  intro b hb
  obtain⟨p,hp⟩:=List.getElem?_of_mem hb
  rcases Yj p b hp with⟨h1,h2⟩ | ⟨k,h1,_⟩
  ·exact .inr ⟨p,h1,h2⟩
  ·exact .inl (List.mem_of_getElem? h1)
 have apart':∀(k p b:Nat),R[k]? = some (some b)→p∉iE js fZ→(dD its κ)[p]? = some (some b)→False:=by
  intro k p b h1 h2 h3
  rcases(D.live b (List.mem_of_getElem? h1)).2.2 with h | h
  ·have:=(S.ctx.live b (List.mem_of_getElem? h3)).1
   have h':w.heap.size≤b:=h
   omega
  ·obtain⟨j,hj⟩:=List.getElem?_of_mem h
   obtain⟨i,t,g1,g2,g3,g4⟩:=lM j b hj
   by_cases e:p=i
   ·subst e; exact h2 (iY g1 g2 g3)
   ·exact S.ctx.sep p i b e h3 g4
 obtain⟨CF,TF⟩:=S.ctx.back D (fun b hb=>(hLc b hb).1) (Lf:=dD (aa++bb) (κ++κx)) (fun b hb=>(La b hb).imp id fun⟨i,_,h⟩=>List.mem_of_getElem? h) (by
  intro p q b hpq hp hq
  rcases Yj p b hp with⟨h1,h2⟩ | ⟨k,h1,h2⟩ <;> rcases Yj q b hq with⟨h3,h4⟩ | ⟨k',h3,h4⟩
  ·exact S.ctx.sep p q b hpq h2 h4
  ·exact apart' k' p b h3 h1 h2
  ·exact apart' k q b h1 h3 h4
  ·by_cases e:k=k'
   ·subst e
    rcases h2 with⟨h2,h5⟩ | ⟨h2,h5⟩ <;> rcases h4 with⟨h4,h6⟩ | ⟨h4,h6⟩
    ·rw[h2]at h4
     injection h4 with h4
     injection h4 with h4
     exact hpq h4
    ·have:=(List.getElem?_eq_some_iff.1 h2).1
     omega
    ·have:=(List.getElem?_eq_some_iff.1 h4).1
     omega
    ·omega
   ·exact D.sep k k' b e h1 h3)
 refine S.next (fun p=>p∈iE js fZ) (by rw[List.length_append,List.length_append,S.len,t1,hbbl]) (by rw[List.length_append,t1]; exact qW (by omega) S.l9) X7 CF TF ?_ ?_
 ·intro p it hp hnp hit
  have hκ:(κ++κx)[p]? = some (κ[p]'(by rw[S.len]; exact hp)):=by rw[List.getElem?_append_left (by rw[S.len]; exact hp)]; exact List.getElem?_eq_getElem (by rw[S.len]; exact hp)
  rcases item p it _ hit hκ with⟨g1,g2,g3,g4⟩ | ⟨k,u,g1,g2,g3⟩
  ·refine⟨g3,CR how _ (List.mem_of_getElem? g3),fun c b hc hb hm=>?_⟩
   obtain⟨j,hj⟩:=List.getElem?_of_mem hm
   obtain⟨i,t,q1,q2,q3,q4⟩:=lM j b hj
   have h5:=cu g3 hc
   rw[hb]at h5
   by_cases e:p=i
   ·subst e; exact g2 (iY q1 q2 q3)
   ·exact S.ctx.sep p i b e h5 q4
  ·rw[List.getElem?_append_left (by rw[t1]; exact hp),t2 p hnp]at hit
   refine⟨hit,CR how _ (List.mem_of_getElem? hit),fun c b hc hb hm=>?_⟩
   obtain⟨j,hj⟩:=List.getElem?_of_mem hm
   obtain⟨i,t,q1,q2,q3,q4⟩:=lM j b hj
   have h5:=cu hit hc
   rw[hb]at h5
   by_cases e:p=i
   ·subst e; exact hnp (iY q1 q2 q3)
   ·exact S.ctx.sep p i b e h5 q4
 ·intro p it c hp hit hc
  rcases item p it c hit hc with⟨g1,g2,_,_⟩ | ⟨k,u,g1,g2,g3⟩
  ·rcases hp with hp | hp
   ·omega
   ·exact absurd hp g2
  ·refine(shown k u it c _ La g1 g2 ?_).1
   rcases g3 with⟨_,_,h⟩ | ⟨_,hk,h⟩
   ·exact .inr h
   ·exact .inl ⟨h,by omega⟩
end
end V
end Go.Proofs.YtbgfhaahhdnogaaGreat
