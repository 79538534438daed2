/- Statements that leave their order open, described. -/
import Derived.Test.YtbgfhaahhdnogaaGreatCall
namespace Go.Proofs.YtbgfhaahhdnogaaGreat
namespace V
def mask:List Bool->List Item->List Item
 | true::ks,it::its=>it::mask ks its
 | false::ks,.k .. :: its=>.EZ::mask ks its
 | false::ks,_::its=>.e::mask ks its
 | _,_=>[]
abbrev KB:=List Bool×List Bool×List Nat
abbrev KI:=List Item×List Item
def K3(ks:KB)(bs:List Bool)(its:List Item):KI:=(mask ks.1 its,match Lx ks.2.2 bs with
 | true=>[]
 | false=>mask ks.2.1 its)
def KH(ks:KB)(bf:KI)(bs:List Bool):KI:=(bf.1,match Lx ks.2.2 bs with
 | true=>[]
 | false=>bf.2)
def Wm(kn:List (Nat×Bool))(s:Nat):Option Bool:=match kn with
 | []=>none
 | (t,b)::r=>match Nat.beq s t with
  | true=>some b
  | false=>Wm r s
def mV(kn:List (Nat×Bool))(ops:Array Oper)(env:iJ):Option (Nat×Bool)->Option (Option (List (Nat×Bool)×Bool))
 | none=>some (some ([],true))
 | some (j,b)=>match (ops[j]?).bind (·.dst)with
   | some s=>(match Wm kn s with
     | some b'=>(match uP s env with
       | some ⟨[],_,.c (.v (.bool _))⟩=>(match Dp b b' with
         | true=>some (some ([],true))
         | false=>some none)
       | some ⟨[],_,.u []⟩=>some none
       | _=>none)
     | none=>(match uP s env with
       | some ⟨[],_,.u []⟩=>some none
       | _=>(qL ops env (some (j,b))).map some))
   | none=>none
def RI(bf:KI)(brk:List Nat)(ops:Array Oper)(bs:List Bool)(i:Nat):List Item:=match !Lx brk bs&&oK ops brk i with
 | true=>bf.2
 | false=>bf.1
def takeD(N:Nat)(tt:TT)(kn:List (Nat×Bool))(brk:List Nat)(bf:KI)(n:Nat)(ops:Array Oper):List Nat->List Kh->List Bool->iJ->Option (List Bool×iJ×List Int×List Int)
 | [],_,bs,env=>some (bs,env,[],[])
 | i::is,evs,bs,env=>match ops[i]?,(Region.free .any ops bs.toArray i&&(Region.ready .any ops bs.toArray).contains i)&&brk.all (fun j=>!Nat.beq j i)with
   | some ⟨some d,op,_,_,_,gd⟩,true=>(match mV kn ops env gd with
     | none=>none
     | some none=>(match free? d env []&&(Nat.blt d N&&(Wm kn d).isNone)with
       | true=>takeD N tt kn brk bf n ops is evs (bs.set i true) ((d,⟨[],true,.u []⟩)::env)
       | false=>none)
     | some (some (pa,g))=>(match free? d env pa&&(Nat.blt d N&&(Wm kn d).isNone)with
       | false=>none
       | true=>(match op with
         | .pick c x y=>(match c with
           | .tmp s=>(match Wm kn s with
             | some b=>(match uP s env,zQ env pa pa (match b with | true=>x | false=>y)with
               | some ⟨[],_,.c (.v (.bool _))⟩,some v=>(match v.lt n with
                 | true=>takeD N tt kn brk bf n ops is evs (bs.set i true) ((d,⟨pa,g,v⟩)::env)
                 | false=>none)
               | _,_=>none)
             | none=>(match zQ env pa pa c with
               | some (.c (.v (.bool v)))=>(match uP s env with
                 | some ec=>(match D9 x y v (zQ env pa ((s,true)::ec.pa) x) (zQ env pa ((s,false)::ec.pa) y)with
                   | some z=>takeD N tt kn brk bf n ops is evs (bs.set i true) ((d,⟨pa,g,z⟩)::env)
                   | none=>none)
                 | none=>none)
               | _=>none))
           | _=>none)
         | op=>(match uj tt (fun _=>true) (RI bf brk ops bs i) (zQ env pa pa) op with
           | some v=>(match v.lt n with
             | true=>takeD N tt kn brk bf n ops is evs (bs.set i true) ((d,⟨pa,g,v⟩)::env)
             | false=>none)
           | none=>(match evs,pa with
             | ev::Gy,[]=>(match Zx tt (RI bf brk ops bs i) (zQ env [] []) op ev with
               | some (v,a,b)=>(match v.lt n with
                 | true=>(takeD N tt kn brk bf n ops is Gy (bs.set i true) ((d,⟨[],true,v⟩)::env)).map fun q=>(q.1,q.2.1,a++q.2.2.1,b++q.2.2.2)
                 | false=>none)
               | none=>none)
             | _,_=>none)))))
   | _,_=>none
def Ih(N:Nat)(tt:TT)(kn:List (Nat×Bool))(brk:List Nat)(bf:KI)(n:Nat)(ops:Array Oper)(is:List Nat)(evs:List Kh)(bs:List Bool)(env:bN)(ts:List Nat):Option (List Bool×bN×List Int×List Int):=
 (takeD N tt kn brk bf n ops is evs bs (toC env)).bind fun q=>(BI q.2.1 ts).map fun e=>(q.1,e,q.2.2)
section
variable {P:Program} {N n0:Nat} {fx:Fx} {its aP:List Item} {bf:KI} {κ κ1:List Conc} {w:World} {env env':bN} {tt:TT} {ops:Array Oper} {Kn:Act->World->Prop} {Ke:Nat->Act->World->Prop} {Kr:Act->World->Prop} {kn:List (Nat×Bool)} {bs bs':List Bool} {fuel:Nat}
theorem BQ:∀{ks:List Bool} {its:List Item} {i:Nat} {it:Item},(mask ks its)[i]? = some it->it=.e∨its[i]? = some it∨(it=.EZ/\∃T cs,its[i]? = some (.k T cs))
 | [],its,i,it,h=>by cases its <;> simp[mask]at h
 | b::ks,[],i,it,h=>by cases b <;> simp[mask]at h
 | true::ks,x::its,0,it,h=>by simp[mask]at h;exact .inr (.inl (by simp[h]))
 | false::ks,x::its,0,it,h=>by
   cases x with
   | k T cs=>simp[mask]at h;exact .inr (.inr ⟨h.symm,T,cs,rfl⟩)
   | _=>simp[mask]at h;exact .inl h.symm
 | true::ks,x::its,i+1,it,h=>by simp[mask]at h;simpa using BQ h
 | false::ks,x::its,i+1,it,h=>by
   have h':(mask ks its)[i]? = some it:=by cases x <;> simpa [mask]using h
   simpa using BQ h'
theorem OK.cut{κ κx:List Conc}{it:Item}{c:Conc}{U:Nat->Prop}(hsc:it.lt κ.length=true)(h:OK (κ++κx) U w it c):OK κ U w it c:=by
 cases it with
 | k Ty cs=>cases c with
   | b n=>
     simp only[OK]at h ⊢;rw[gu hsc]at h;exact h
   | _=>exact h.elim
 | elt src ow cs=>cases c with
   | a ad=>
     cases src with
     | none=>
       simp only[OK]at h ⊢;rw[gu (by simpa [Item.lt]using hsc)]at h;exact h
     | some q=>
       obtain⟨i,iv⟩:=q;simp only[Item.lt,Bool.and_eq_true,Nat.blt_eq]at hsc;simp only[OK]at h ⊢;rw[gu hsc.2]at h;obtain⟨h1,h2,A,n,c,h3,h4⟩:=h;exact⟨h1,h2,A,n,c,by rwa [List.getElem?_append_left hsc.1]at h3,h4⟩
   | _=>cases src <;> exact h.elim
 | o sz E R l=>cases c with
   | r A n c=>exact h
   | _=>exact h.elim
 | d sz R l=>cases c with
   | r A n c=>exact h
   | _=>exact h.elim
 | mp k R ow l=>cases c with
   | m b=>cases ow <;> exact h
   | _=>cases ow <;> exact h.elim
 | lm k l=>cases c with
   | m b=>
     simp only[OK]at h ⊢;have e:(l.map fun p=>(p.1,p.2.den (κ++κx)))=l.map fun p=>(p.1,p.2.den κ):=List.map_congr_left fun p hp=>by
      simp only[Item.lt,List.all_eq_true]at hsc;rw[sW (hsc p hp)]
     rwa [e]at h
   | _=>exact h.elim
 | str s=>cases c with
   | s x=>exact h
   | _=>exact h.elim
 | EZ=>cases c with
   | b n=>exact h
   | _=>exact h.elim
 | e=>trivial
theorem yZ.ext{κx:List Conc}(hs:oq κ.length its=true)(h:yZ its κ w):yZ its (κ++κx) w:=fun i it hi=>by
 obtain⟨c,U,h1,h2⟩:=h i it hi;have hlt:i<κ.length:=(List.getElem?_eq_some_iff.1 h1).1;unfold oq at hs;rw[List.all_eq_true]at hs;exact⟨c,U,by rw[List.getElem?_append_left hlt];exact h1,OK.ext (hs it (List.mem_of_getElem? hi)) (fun _ h=>h) h2⟩
theorem St.knoK{ks:List Bool}{bf its:List Item}{κ1 κx:List Conc}(S:St n0 fx env its (κ1++κx) w)(hK:mask ks its=bf)(hl:bf.length<=κ1.length)(hs:oq κ1.length bf=true):yZ bf κ1 w:=fun i it hi=>by
 have hlt:i<κ1.length:=Nat.lt_of_lt_of_le (List.getElem?_eq_some_iff.1 hi).1 hl;have hc:κ1[i]? = some κ1[i]:=List.getElem?_eq_getElem hlt;refine⟨κ1[i],Mu fx.U0 (dG its (κ1++κx)),hc,?_⟩;have hsc:it.lt κ1.length=true:=by
  unfold oq at hs;rw[List.all_eq_true]at hs;exact hs it (List.mem_of_getElem? hi)
 rw[← hK]at hi;rcases BQ hi with rfl | h | ⟨rfl,T,cs,h⟩
 ·cases κ1[i] <;> trivial
 rotate_left
 ·have:=S.ok i _ κ1[i] h (by rw[List.getElem?_append_left hlt];exact hc);cases hk:κ1[i]with
  | b n=>trivial
  | _=>rw[hk]at this;exact this.elim
 ·exact OK.cut hsc (S.ok i it _ h (by rw[List.getElem?_append_left hlt];exact hc))
def zZ(ks:KB)(bf:KI)(κ1:List Conc)(b:Array Bool)(w:World):Prop:=yZ bf.1 κ1 w/\(yx ks.2.2 b=false->yZ bf.2 κ1 w)
structure DK(ks:KB)(bf:KI)(κ1:List Conc):Prop where
 sc:oq κ1.length bf.1=true
 eq:bf.1.length=κ1.length
 sc2:oq κ1.length bf.2=true
 eq2:bf.2.length=κ1.length
theorem St.K6{ks:KB}{bf:KI}{its:List Item}{κ1 κx:List Conc}{bs:List Bool}(S:St n0 fx env its (κ1++κx) w)(hK:K3 ks bs its=KH ks bf bs)(D:DK ks bf κ1):zZ ks bf κ1 bs.toArray w:=by
 unfold K3 KH at hK;injection hK with h1 h2;refine⟨S.knoK h1 (by rw[D.eq];exact Nat.le_refl _) D.sc,fun h=>?_⟩;rw[EU]at h;rw[h]at h2;exact S.knoK h2 (by rw[D.eq2];exact Nat.le_refl _) D.sc2
theorem zZ.mono{ks:KB}{bf:KI}{κ1:List Conc}{b:Array Bool}{i:Nat}(h:zZ ks bf κ1 b w):zZ ks bf κ1 (b.setIfInBounds i true) w:=⟨h.1,fun hb=>h.2 (Ph hb)⟩
theorem zZ.less{ks:KB}{bf:KI}{κ1:List Conc}{i:Nat}(hi:ks.2.2.all (fun j=>!Nat.beq j i)=true)(b:Array Bool)(w:World)(h:zZ ks bf κ1 (b.setIfInBounds i true) w):zZ ks bf κ1 b w:=⟨h.1,fun hb=>h.2 (wG hb fun hm=>by
 rw[List.all_eq_true]at hi;have:=hi i hm;simp at this)⟩
theorem zZ.IE{ks:KB}{bf:KI}{κ1:List Conc}{bs bs':List Bool}{i:Nat}(hb:bs.set i true=bs')(h:zZ ks bf κ1 bs.toArray w):zZ ks bf κ1 bs'.toArray w:=by
 have:=h.mono (i:=i);rw[← hb];simpa using this
def SD(P:Program)(ops:Array Oper)(Kn:Act->World->Prop)(ks:KB)(bf:KI)(κ1:List Conc)(fuel:Nat)(bs:List Bool)(N n0:Nat)(fx:Fx)(env:bN)(its:List Item):Prop:=
 ∀κx w,St n0 fx env its (κ1++κx) w->WA P fx.px ops Kn (zZ ks bf κ1) fuel bs N (eX (κ1++κx) env) w
def SW(P:Program)(ops:Array Oper)(Kn:Act->World->Prop)(ks:KB)(bf:KI)(κ1:List Conc)(fuel:Nat)(bs:List Bool)(N n0:Nat)(fx:Fx)(env:bN)(its:List Item)(i:Nat):Prop:=
 ∀κx w,St n0 fx env its (κ1++κx) w->WS P fx.px ops Kn (zZ ks bf κ1) fuel bs N (eX (κ1++κx) env) w i
def EJ(ks:List Bool)(its:List Item):Bool:=!its.any Item.ow&&(oq its.length (mask ks its)&&Nat.beq (mask ks its).length its.length)
theorem Z.qU{id:Nat}{os:List Oper}(hm:P.follows .mixedOrders=true)(ks:KB)(hB:(EJ ks.1 its&&EJ ks.2.1 its)=true)(h:∀κ1,DK ks (mask ks.1 its,mask ks.2.1 its) κ1->SD P os.toArray Kn ks (mask ks.1 its,mask ks.2.1 its) κ1 os.length (List.replicate os.length false) N n0 fx env its):Z P (.region id os.toArray true) Kn Ke Kr N n0 fx env its:=fun κ w S=>by
 simp only[EJ,Bool.and_eq_true,Bool.not_eq_true']at hB;obtain⟨⟨hB1,hB2,hB3⟩,_,hB5,hB6⟩:=hB;refine WC.draw (zZ ks (mask ks.1 its,mask ks.2.1 its) κ) hm S.ctx fun w' C T=>?_;have S':St n0 fx env its (κ++[]) w':=by
  refine S.next (fun _=>False) (by simp[S.len]) S.qZ S.DW (by rw[List.append_nil];exact C) (by rw[List.append_nil];exact T) (fun i it _ _ h=>⟨h,F5 hB1 _ (List.mem_of_getElem? h),fun _ _ _ _=>by simp⟩) (fun i it c hi h1 _=>?_);have:=(List.getElem?_eq_some_iff.1 h1).1;rcases hi with hi | hi
  ·omega
  ·exact hi.elim
 have:=h κ ⟨by rw[S.len];exact hB2,by rw[S.len];exact Nat.eq_of_beq_eq_true hB3,by rw[S.len];exact hB5,by rw[S.len];exact Nat.eq_of_beq_eq_true hB6⟩ [] w' S';rwa [List.append_nil]at this
theorem Z.draw{id:Nat}{os:List Oper}(hm:P.follows .mixedOrders=true)(ks:List Bool)(hB:EJ ks its=true)(h:∀κ1,DK (ks,ks,[]) (mask ks its,mask ks its) κ1->SD P os.toArray Kn (ks,ks,[]) (mask ks its,mask ks its) κ1 os.length (List.replicate os.length false) N n0 fx env its):Z P (.region id os.toArray true) Kn Ke Kr N n0 fx env its:=
 Z.qU hm (ks,ks,[]) (by show(EJ ks its&&EJ ks its)=true;rw[hB];rfl) h
theorem SD.done{ks:KB}(hr:Region.ready .any ops bs.toArray=[])(h:∀a w,A N n0 fx env its a w->Kn a w):SD P ops Kn ks bf κ1 fuel bs N n0 fx env its:=fun κx w S=>WA.done hr fun a ha=>h a w ⟨_,ha,S⟩
theorem SD.fF{ks:KB}{y:Code}{CR:Act->World->Prop}(hr:Region.ready .any ops bs.toArray=[])(h:Z P y CR Ke Kr N n0 fx env its):SD P ops (fun a w=>Hq P fx.px y CR Ke Kr a w) ks bf κ1 fuel bs N n0 fx env its:=fun κx w S=>WA.fF hr (h _ w S)
theorem SD.all1{ks:KB}{i:Nat}(hr:Region.ready .any ops bs.toArray=[i])(h:SW P ops Kn ks bf κ1 fuel bs N n0 fx env its i):SD P ops Kn ks bf κ1 (fuel+1) bs N n0 fx env its:=fun κx w S=>WA.all1 hr (h κx w S)
theorem SD.all2{ks:KB}{i j:Nat}(hr:Region.ready .any ops bs.toArray=[i,j])(h:SW P ops Kn ks bf κ1 fuel bs N n0 fx env its i)(h2:SW P ops Kn ks bf κ1 fuel bs N n0 fx env its j):SD P ops Kn ks bf κ1 (fuel+1) bs N n0 fx env its:=fun κx w S=>WA.all2 hr (h κx w S) (h2 κx w S)
theorem SD.norm{ks:KB}{bq:List Item}(h:its=bq)(hk:SD P ops Kn ks bf κ1 fuel bs N n0 fx env bq):SD P ops Kn ks bf κ1 fuel bs N n0 fx env its:=h▸hk
theorem SD.pre{ks:KB}(h:Pre n0 fx env its aP)(hk:SD P ops Kn ks bf κ1 fuel bs N n0 fx env aP):SD P ops Kn ks bf κ1 fuel bs N n0 fx env its:=fun κx w S=>by
 obtain⟨κy,S'⟩:=h _ w S;have e:eX (κ1++κx++κy) env=eX (κ1++κx) env:=jM (by rw[S.len];exact S.qZ);have:=hk (κx++κy) w (by rw[← List.append_assoc];exact S');rw[← List.append_assoc,e]at this;exact this
theorem SD.lay{ks:KB}(fuel':Nat)(bs':List Bool)(env2:bN)(nJ:List Item)(h:SD P ops Kn ks bf κ1 fuel' bs' N n0 fx env2 nJ)(k:SD P ops Kn ks bf κ1 fuel' bs' N n0 fx env2 nJ->SD P ops Kn ks bf κ1 fuel bs N n0 fx env its):SD P ops Kn ks bf κ1 fuel bs N n0 fx env its:=k h
theorem SD.view{ks:KB}(D:DK ks bf κ1)(js:List Jx)(hk:SD P ops Kn ks bf κ1 fuel bs N n0 fx env' aP)(e:(preB bf.1.length js,FT js env',jT js aP,CZ n0 its.length js env' aP (qB env env') (srcs its js aP))=(true,qB env env',srcs its js aP,true)):SD P ops Kn ks bf κ1 fuel bs N n0 fx env its:=fun κx w S a ha=>by
 injection e with e0 e;injection e with e1 e;injection e with e2 hB;have hB':=hB;simp only[CZ,Bool.and_eq_true]at hB;obtain⟨b1,b2,b3,b4,b5,b6,b7⟩:=hB;obtain⟨en,he⟩:=Option.isSome_iff_exists.1 b6;have S':=S.view e2 (by
  simp only[CZ,Bool.and_eq_true];exact⟨b1,b2,b3,b4,b5,rfl,b7⟩)
 have hpre:(js.map (cJ (κ1++κx))).take κ1.length=κ1:=by
  unfold preB at e0;rw[List.all_eq_true]at e0;apply List.ext_getElem?;intro i;rw[List.getElem?_take];by_cases hi:i<κ1.length
  ·rw[if_pos hi,List.getElem?_map];have:=e0 i (List.mem_range.2 (by rw[D.eq];exact hi));split at this
   ·rename_i k hk;have hki:=Nat.eq_of_beq_eq_true this;subst hki;rw[hk];simp[cJ,List.getElem?_append_left hi,List.getElem?_eq_getElem hi]
   ·cases this
  ·rw[if_neg hi,List.getElem?_eq_none (by omega)]
 have hsp:js.map (cJ (κ1++κx))=κ1++(js.map (cJ (κ1++κx))).drop κ1.length:=by
  have:=List.take_append_drop κ1.length (js.map (cJ (κ1++κx)));rw[hpre]at this;exact this.symm
 have h5:=hk ((js.map (cJ (κ1++κx))).drop κ1.length) w (by rw[← hsp];exact S');rw[← hsp]at h5;exact h5 a (ha.sub (vF (by rw[S.len];exact nY b2) (e1.trans he) he))
def Ia:Item->Item
 | .elt (some _) false cs=>.elt none false cs
 | it=>it
def rE:List Item->List Item
 | []=>[]
 | it::r=>Ia it::rE r
def elQ:Item->Option (Nat×Int×Nat)
 | .elt (some (i,iv)) false cs=>some (i,iv,cs.length)
 | _=>none
def elG(its:List Item):Jx->Option (Nat×Int×Nat)->Option (Nat×Int×Nat)
 | _,none=>none
 | .g k,some _=>match its[k]? with
   | some (.elt (some (i,iv)) _ cs)=>some (i,iv,cs.length)
   | _=>none
 | _,some _=>none
def elS(its:List Item):List Jx->List Item->List (Option (Nat×Int×Nat))
 | j::js,t::ts=>elG its j (elQ t)::elS its js ts
 | _,_=>[]
def elT:List Item->List (Option (Nat×Int×Nat))
 | t::ts=>elQ t::elT ts
 | []=>[]
def elB(base:Nat):List Item->Bool
 | t::ts=>(match elQ t with
   | some (i,_)=>Nat.blt i base
   | none=>true)&&elB base ts
 | []=>true
theorem sH:∀{l:List Item},(rE l).length=l.length
 | []=>rfl
 | _::l=>by simp[rE,sH (l:=l)]
theorem w9:∀{l:List Item} {j:Nat} {it:Item},l[j]? = some it->(rE l)[j]? = some (Ia it)
 | [],_,_,h=>by simp at h
 | _::_,0,_,h=>by simp at h;subst h;rfl
 | _::l,j+1,_,h=>by
   simp only[List.getElem?_cons_succ]at h;simp only[rE,List.getElem?_cons_succ];exact w9 h
theorem NM(it:Item)(c:Conc):iC (Ia it) c=iC it c:=by
 unfold Ia;split
 ·cases c <;> rfl
 ·rfl
theorem xg:∀{l:List Item} {κ:List Conc},dG (rE l) κ=dG l κ
 | [],_=>rfl
 | _::_,[]=>rfl
 | it::l,c::κ=>by
   have:=xg (l:=l) (κ:=κ);unfold dG at this ⊢;simp only[rE,List.zipWith_cons_cons,NM,this]
theorem Al(it:Item):(Ia it=it/\elQ it=none)∨∃i iv cs,it=.elt (some (i,iv)) false cs:=by
 cases it with
 | elt src ow cs=>cases src with
   | none=>exact .inl ⟨rfl,rfl⟩
   | some q=>obtain⟨i,iv⟩:=q;cases ow with
     | true=>exact .inl ⟨rfl,rfl⟩
     | false=>exact .inr ⟨i,iv,cs,rfl⟩
 | _=>exact .inl ⟨rfl,rfl⟩
theorem GD:∀{base:Nat} {l:List Item} {j:Nat} {i:Nat} {iv:Int} {cs:List Cell},elB base l=true->l[j]? = some (.elt (some (i,iv)) false cs)->i<base
 | _,[],_,_,_,_,_,h=>by simp at h
 | _,t::l,0,_,_,_,hb,h=>by
   simp only[List.getElem?_cons_zero]at h;injection h with h;subst h;simp only[elB,Bool.and_eq_true]at hb;simpa [elQ]using hb.1
 | _,t::l,j+1,_,_,_,hb,h=>by
   simp only[List.getElem?_cons_succ]at h;simp only[elB,Bool.and_eq_true]at hb;exact GD hb.2 h
theorem M9{its:List Item}:∀{js:List Jx} {l:List Item} {j:Nat} {i:Nat} {iv:Int} {cs:List Cell},elS its js l=elT l->l[j]? = some (.elt (some (i,iv)) false cs)->∃k ow cs2,js[j]? = some (.g k)/\its[k]? = some (.elt (some (i,iv)) ow cs2)/\cs2.length=cs.length
 | _,[],_,_,_,_,_,h=>by simp at h
 | [],t::l,_,_,_,_,he,_=>by simp[elS,elT]at he
 | q::js,t::l,0,i,iv,cs,he,h=>by
   simp only[List.getElem?_cons_zero]at h;injection h with h;subst h;simp only[elS,elT,List.cons.injEq]at he;have h1:=he.1;simp only[elQ]at h1;cases q with
   | g k=>
     simp only[elG]at h1;split at h1
     ·rename_i i' iv' ow cs' hk;simp only[Option.some.injEq,Prod.mk.injEq]at h1;obtain⟨rfl,rfl,h3⟩:=h1;exact⟨k,_,_,rfl,hk,h3⟩
     ·cases h1
   | _=>simp[elG]at h1
 | q::js,t::l,j+1,_,_,_,he,h=>by
   simp only[List.getElem?_cons_succ]at h ⊢;simp only[elS,elT,List.cons.injEq]at he;exact M9 he.2 h
theorem SD.j4{ks:KB}(D:DK ks bf κ1)(js:List Jx)(hk:SD P ops Kn ks bf κ1 fuel bs N n0 fx env' aP)(e:(preB bf.1.length js,FT js env',jT js (rE aP),elS its js aP,CZ n0 its.length js env' (rE aP) (qB env env') (srcs its js (rE aP)),elB bf.1.length aP)=(true,qB env env',srcs its js (rE aP),elT aP,true,true)):SD P ops Kn ks bf κ1 fuel bs N n0 fx env its:=fun κx w S a ha=>by
 injection e with e0 e;injection e with e1 e;injection e with e2 e;injection e with e3 e;injection e with hB e4;simp only[CZ,Bool.and_eq_true]at hB;obtain⟨b1,b2,b3,b4,b5,b6,b7⟩:=hB;obtain⟨en,he⟩:=Option.isSome_iff_exists.1 b6;have S':=S.view e2 (by
  simp only[CZ,Bool.and_eq_true];exact⟨b1,b2,b3,b4,b5,rfl,b7⟩)
 have hpre:(js.map (cJ (κ1++κx))).take κ1.length=κ1:=by
  unfold preB at e0;rw[List.all_eq_true]at e0;apply List.ext_getElem?;intro i;rw[List.getElem?_take];by_cases hi:i<κ1.length
  ·rw[if_pos hi,List.getElem?_map];have:=e0 i (List.mem_range.2 (by rw[D.eq];exact hi));split at this
   ·rename_i k hk;have hki:=Nat.eq_of_beq_eq_true this;subst hki;rw[hk];simp[cJ,List.getElem?_append_left hi,List.getElem?_eq_getElem hi]
   ·cases this
  ·rw[if_neg hi,List.getElem?_eq_none (by omega)]
 have hsp:js.map (cJ (κ1++κx))=κ1++(js.map (cJ (κ1++κx))).drop κ1.length:=by
  have:=List.take_append_drop κ1.length (js.map (cJ (κ1++κx)));rw[hpre]at this;exact this.symm
 have hlen:(js.map (cJ (κ1++κx))).length=aP.length:=by rw[S'.len,sH]
 have hle:κ1.length<=aP.length:=by
  rw[← hlen,hsp];simp
 have hS:St n0 fx env' aP (js.map (cJ (κ1++κx))) w:=by
  refine⟨hlen,S'.pre,S'.n0,by have:=S'.qZ;rwa [sH]at this,?_,by have:=S'.ctx;rwa [xg]at this,fun j it c h1 h2=>?_⟩
  ·have hs:=S'.DW;unfold oq at hs ⊢;rw[List.all_eq_true]at hs ⊢;intro it hit;obtain⟨j,hj⟩:=List.getElem?_of_mem hit;have h3:=hs _ (List.mem_of_getElem? (w9 hj));rw[sH]at h3;rcases Al it with⟨h4,_⟩ | ⟨i,iv,cs,rfl⟩
   ·rwa [h4]at h3
   ·have hi:=GD e4 hj;rw[D.eq]at hi;simp only[Ia,Item.lt]at h3;simp only[Item.lt,Bool.and_eq_true,Nat.blt_eq];exact⟨by omega,h3⟩
  ·have h3:=S'.ok j (Ia it) c (w9 h1) h2;rw[xg]at h3;rcases Al it with⟨h4,_⟩ | ⟨i,iv,cs,rfl⟩
   ·rwa [h4]at h3
   ·obtain⟨k,ow,cs2,g1,g2,g3⟩:=M9 e3 h1;have hi:=GD e4 h1;rw[D.eq]at hi;have g4:(κ1++κx)[k]? = some c:=by
     rw[List.getElem?_map,g1]at h2;have hkl:k<(κ1++κx).length:=by
      rw[S.len];exact(List.getElem?_eq_some_iff.1 g2).1
     simp only[Option.map_some,Option.some.injEq,cJ]at h2;rw[List.getElem?_eq_getElem hkl]at h2 ⊢;simpa using h2
    have h5:=S.ok k _ c g2 g4;cases c with
    | a ad=>
      simp only[Ia,OK]at h3;simp only[OK]at h5 ⊢;obtain⟨_,_,A,n,c',q1,q2,q3,q4⟩:=h5;refine⟨by simpa using h3.1,h3.2,A,n,c',?_,by rw[← g3];exact q2,q3,q4⟩;rw[hsp,List.getElem?_append_left hi];rwa [List.getElem?_append_left hi]at q1
    | _=>exact h3.elim
 have h5:=hk ((js.map (cJ (κ1++κx))).drop κ1.length) w (by rw[← hsp];exact hS);rw[← hsp]at h5;exact h5 a (ha.sub (vF (by rw[S.len];exact nY b2) (e1.trans he) he))
theorem SW.pre{ks:KB}{i:Nat}(h:Pre n0 fx env its aP)(hk:SW P ops Kn ks bf κ1 fuel bs N n0 fx env aP i):SW P ops Kn ks bf κ1 fuel bs N n0 fx env its i:=fun κx w S=>by
 obtain⟨κy,S'⟩:=h _ w S;have e:eX (κ1++κx++κy) env=eX (κ1++κx) env:=jM (by rw[S.len];exact S.qZ);have:=hk (κx++κy) w (by rw[← List.append_assoc];exact S');rw[← List.append_assoc,e]at this;exact this
theorem SW.qM{ks:KB}{i d:Nat}{oi:Oper}{v:SV}(D:DK ks bf κ1)(hi:ops[i]? = some oi)(hg:oi.guard=none∨∃j b s x,oi.guard=some (j,b)/\(ops[j]?).bind (·.dst)=some s/\Di s env=some (vb x)/\x=b)(hd:oi.dst=some d)(he:Eff P N n0 fx env its oi (some v) aP)(hN:(Nat.blt d N&&v.lt aP.length)=true)(hb:bs.set i true=bs')(hK:K3 ks bs' aP=KH ks bf bs')
 (hk:SD P ops Kn ks bf κ1 fuel bs' N n0 fx ((d,v)::env) aP):SW P ops Kn ks bf κ1 fuel bs N n0 fx env its i:=fun κx w S a ha=>by
 simp only[Bool.and_eq_true]at hN;have hw:Region.wanted oi (yielded ops a.tmps)=true:=by
  rcases hg with hg | ⟨j,b,s,x,hg,hj,hs,hx⟩
  ·simp[Region.wanted,hg]
  ·have hl:=iO (κ:=κ1++κx) hs;simp only[SV.den,Cell.den]at hl;simp[Region.wanted,hg,uh hj hl ha,hx]
 unfold wpOp;simp only[hi,hw,if_true];refine .inl ?_;unfold Oper.wp;have key:∀ov w',(∃κy,(∀x,some v=some x->ov=some (x.den (κ1++κx++κy)))/\St n0 fx env aP (κ1++κx++κy) w')->∀u,ov=some u->zZ ks bf κ1 (bs.toArray.setIfInBounds i true) w'/\oo P ops (QN fx.px Kn) (zZ ks bf κ1) fuel (bs.toArray.setIfInBounds i true) (a.put (some d) u) w':=by
  have e:bs.toArray.setIfInBounds i true=bs'.toArray:=by rw[← hb];simp
  rw[e];rintro ov w' ⟨κy,h1,S'⟩ u hu;have:=h1 v rfl;rw[hu]at this;injection this with this;subst this;rw[List.append_assoc]at S';refine⟨S'.K6 hK D,?_⟩;have h3:=hk (κx++κy) w' (S'.env (by
   have:=S'.qZ;unfold xB at this ⊢;simp[hN.2,this]))
  have h2:eX (κ1++(κx++κy)) ((d,v)::env)=(d,v.den (κ1++κx++κy))::eX (κ1++κx) env:=by
   rw[← List.append_assoc];show(d,v.den (κ1++κx++κy))::eX (κ1++κx++κy) env=_;rw[jM (by rw[S.len];exact S.qZ)]
  rw[h2]at h3;exact h3 _ (ha.put hN.1)
 rcases he _ w S a ha with⟨u,w',h1,h2⟩ | ⟨w',h1,h2⟩ | ⟨f,args,h1,h2⟩
 ·rw[h1];simp only[Oper.upon,hd];exact key _ _ h2 u rfl
 ·obtain⟨κy,h3,_⟩:=h2;exact absurd (h3 v rfl) (by simp)
 ·rw[h1];refine Calls.mono h2 fun e w' hq=>?_;obtain⟨u,rfl,hv⟩:=hq;simp only[hd];exact key _ _ hv u rfl
theorem SW.store{ks:KB}{i q:Nat}{op:Op}{t:TypeId}{ps:String}{af:Array Edge}{T:TypeId}{cs:List Cell}(D:DK ks bf κ1)(cK:dX P tt)(hi:ops[i]? = some ⟨none,op,t,ps,af,none⟩)(hst:stR tt its (jD env) op=some (q,T,cs))(how:its.any Item.ow=false)(hb:bs.set i true=bs')(hK:K3 ks bs' (kW its q T cs)=KH ks bf bs')
 (hk:SD P ops Kn ks bf κ1 fuel bs' N n0 fx env (kW its q T cs)):SW P ops Kn ks bf κ1 fuel bs N n0 fx env its i:=fun κx w S a ha=>by
 obtain⟨w',h1,S'⟩:=Qs (N:=N) (t:=t) (ps:=ps) (af:=af) (gd:=none) cK S (F5 how) (fun x v h=>eD h) hst a ha;unfold wpOp;simp only[hi,Region.wanted,if_true];refine .inl ?_;unfold Oper.wp;rw[h1];have h4:=hk κx w' S' _ ha;have e:bs.toArray.setIfInBounds i true=bs'.toArray:=by rw[← hb];simp
 rw[e];exact⟨S'.K6 hK D,h4⟩
theorem mY{o:Oper}{v:SV}(cK:dX P tt)(h:uj tt (fun _=>true) its (jD env) o.op=some v):Eff P N n0 fx env its o (some v) its:=fun κ w S a ha=>by
 obtain⟨d,op,t,ps,af,g⟩:=o;exact .inl ⟨_,w,FJ cK S.MQ (fun x v h=>eD h) h a ha,[],fun x hx=>(by injection hx with hx;subst hx;rw[List.append_nil]),by rw[List.append_nil];exact S⟩
def Uy(kn:List (Nat×Bool))(env:bN):Prop:=∀s b,Wm kn s=some b->∀v,Di s env=some (vb v)->v=b
theorem qC:Uy [] env:=fun s b h=>by cases h
theorem wU{s:Nat}{b:Bool}{v:Bool}(h1:Di s env=some (vb v))(h2:v=b)(hr:Uy kn env):Uy ((s,b)::kn) env:=fun t b' h v' hv'=>by
 simp only[Wm]at h;split at h
 ·rename_i he;injection h with h;subst h;rw[Nat.eq_of_beq_eq_true he,h1]at hv';injection hv' with hv';injection hv' with hv';injection hv' with hv';injection hv' with hv';exact hv'▸h2
 ·exact hr t b' h v' hv'
theorem O3{env:iJ}{gd:Option (Nat×Bool)}{pa:List (Nat×Bool)}{g:Bool}(h:mV kn ops env gd=some (some (pa,g))):Fits env pa g:=by
 cases gd with
 | none=>
   simp only[mV,Option.some.injEq,Prod.mk.injEq]at h;obtain⟨rfl,rfl⟩:=h;exact rfl
 | some q=>
   obtain⟨j,b⟩:=q;simp only[mV]at h;split at h
   ·split at h
    ·split at h
     ·split at h
      ·simp only[Option.some.injEq,Prod.mk.injEq]at h;obtain⟨rfl,rfl⟩:=h;exact rfl
      ·cases h
     ·cases h
     ·cases h
    ·split at h
     ·cases h
     ·cases hp:qL ops env (some (j,b))with
      | none=>simp[hp]at h
      | some q=>
        simp only[hp,Option.map_some,Option.some.injEq]at h;subst h;exact vW hp
   ·cases h
def KnC(kn:List (Nat×Bool))(env:iJ):Prop:=∀s b,Wm kn s=some b->∀v g,uP s env=some ⟨[],g,vb v⟩->v=b
theorem KnC.push{env:iJ}(h:KnC kn env){d:Nat}{e:UA}(hd:(Wm kn d).isNone=true):KnC kn ((d,e)::env):=fun s b hs v g hl=>by
 simp only[uP]at hl;cases hb:Nat.beq s d with
 | true=>
   rw[← Nat.eq_of_beq_eq_true hb,hs]at hd;cases hd
 | false=>
   rw[hb]at hl;exact h s b hs v g hl
theorem UU{env:iJ}(hw:WF env)(hk:KnC kn env){o:Oper}{a:Act}(ha:Holds N (lY κ env) a):(∀pa g,mV kn ops env o.guard=some (some (pa,g))->Region.wanted o (yielded ops a.tmps)=g)/\(mV kn ops env o.guard=some none->Region.wanted o (yielded ops a.tmps)=false):=by
 cases hgd:o.guard with
 | none=>
   refine⟨fun pa g h=>?_,fun h=>by cases h⟩;simp only[mV,Option.some.injEq,Prod.mk.injEq]at h;simp[Region.wanted,hgd,h.2.symm]
 | some q=>
   obtain⟨j,b⟩:=q;have yb:∀s v,(ops[j]?).bind (·.dst)=some s->lk s (lY κ env)=some (.bool v)->Region.wanted o (yielded ops a.tmps)=(v==b):=fun s v hj hl=>by
    simp[Region.wanted,hgd,uh hj hl ha]
   have yu:∀s,(ops[j]?).bind (·.dst)=some s->lk s (lY κ env)=some undef->Region.wanted o (yielded ops a.tmps)=false:=fun s hj hl=>by
    have:yielded ops a.tmps j=none:=by
     unfold yielded;rw[hj];simp[ha.get s _ hl,undef]
    simp[Region.wanted,hgd,this]
   refine⟨fun pa g h=>?_,fun h=>?_⟩
   ·simp only[mV]at h;split at h
    ·rename_i s hs;split at h
     ·rename_i b' hkn;split at h
      ·rename_i g0 v hl;split at h
       ·rename_i hbb;simp only[Option.some.injEq,Prod.mk.injEq]at h;obtain⟨rfl,rfl⟩:=h;have hv:=hk s b' hkn v g0 hl;have hls:=ku (κ:=κ) hl;have hg0:g0=true:=hw s _ hl;subst hg0;simp only[qV,SV.den,Cell.den]at hls;rw[yb s v hs hls,hv,zW hbb];cases b' <;> rfl
       ·cases h
      ·cases h
      ·cases h
     ·split at h
      ·cases h
      ·cases hp:qL ops env (some (j,b))with
       | none=>simp[hp]at h
       | some q=>
         simp only[hp,Option.map_some,Option.some.injEq]at h;subst h;have hf:=vW hp;simp only[qL,hs]at hp;split at hp
         ·rename_i pa' g' v hl;simp only[Option.some.injEq,Prod.mk.injEq]at hp;obtain⟨rfl,hg⟩:=hp;have hls:=ku (κ:=κ) hl;cases hg':g' with
          | false=>
            subst hg';simp only[qV]at hls;rw[yu s hs hls,← hg];have hwf:=hw s _ hl;cases pa' with
            | nil=>cases hwf
            | cons q p=>rfl
          | true=>
            subst hg';simp only[qV,SV.den,Cell.den]at hls;rw[yb s v hs hls,← hg];cases pa' <;> cases b <;> cases v <;> rfl
         ·cases hp
    ·cases h
   ·simp only[mV]at h;split at h
    ·rename_i s hs;split at h
     ·rename_i b' hkn;split at h
      ·rename_i g0 v hl;split at h
       ·cases h
       ·rename_i hbb;have hv:=hk s b' hkn v g0 hl;have hls:=ku (κ:=κ) hl;have hg0:g0=true:=hw s _ hl;subst hg0;simp only[qV,SV.den,Cell.den]at hls;rw[yb s v hs hls,hv];cases b <;> cases b' <;> first | rfl | cases hbb
      ·rename_i g0 hl;have hls:=ku (κ:=κ) hl;have hg0:g0=true:=hw s _ hl;subst hg0;exact yu s hs hls
      ·cases h
     ·split at h
      ·rename_i g0 hl;have hls:=ku (κ:=κ) hl;have hg0:g0=true:=hw s _ hl;subst hg0;exact yu s hs hls
      ·cases hp:qL ops env (some (j,b)) <;> simp[hp]at h
    ·cases h
theorem oL{ks:KB}{env:iJ}{i d:Nat}{op:Op}{t:TypeId}{ps:String}{af:Array Edge}{gd:Option (Nat×Bool)}{e:UA}(hw:WF env)(hk:KnC kn env)(hsel:Region.noSelect ops=true)(hi:ops[i]? = some ⟨some d,op,t,ps,af,gd⟩)(hfr:((Region.free .any ops bs.toArray i&&(Region.ready .any ops bs.toArray).contains i)&&ks.2.2.all (fun j=>!Nat.beq j i))=true)(hN:Nat.blt d N=true)(hS:zZ ks bf κ1 bs.toArray w)
 (hr:(mV kn ops env gd=some none/\qV κ e=undef)∨(mV kn ops env gd=some (some (e.pa,e.g))/\(e.g=true->∀w,yZ (RI bf ks.2.2 ops bs i) κ1 w->dM P N (lY κ env) ⟨some d,op,t,ps,af,gd⟩ w (e.x.den κ))))
 (h:WA P fx.px ops Kn (zZ ks bf κ1) fuel (bs.set i true) N (lY κ ((d,e)::env)) w):WA P fx.px ops Kn (zZ ks bf κ1) (fuel+1) bs N (lY κ env) w:=by
 simp only[Bool.and_eq_true]at hfr;obtain⟨⟨hf1,hf2⟩,hf3⟩:=hfr;have hy:∀a,Holds N (lY κ env) a->YieldsIf P ops (fun w=>yZ (RI bf ks.2.2 ops bs i) κ1 w) ⟨some d,op,t,ps,af,gd⟩ (qV κ e) a:=fun a ha=>by
  have hwt:=UU (κ:=κ) (ops:=ops) hw hk (o:=⟨some d,op,t,ps,af,gd⟩) ha;rcases hr with⟨h1,h2⟩ | ⟨h1,h2⟩
  ·exact .inr ⟨hwt.2 h1,h2⟩
  ·have h3:=hwt.1 _ _ h1;cases hg:e.g with
   | true=>
     refine .inl ⟨h3.trans hg,fun w hS=>?_⟩;simp only[qV,hg];exact h2 hg w hS a ha
   | false=>
     refine .inr ⟨h3.trans hg,?_⟩;simp only[qV,hg]
 cases hq : !Lx ks.2.2 bs&&oK ops ks.2.2 i with
 | true=>
   have hq2:=hq;simp only[Bool.and_eq_true,Bool.not_eq_true']at hq2;refine WA.FH (v:=qV κ e) (brk:=ks.2.2) hi rfl hsel hf1 hf2 hq2.2 hq2.1 (fun b w hb hS=>?_) (zZ.less hf3) hy (hS.IE rfl) hN rfl h;show yZ (RI bf ks.2.2 ops bs i) κ1 w;unfold RI;rw[hq];exact hS.2 hb
 | false=>
   refine WA.FH (v:=qV κ e) (brk:=[]) hi rfl hsel hf1 hf2 rfl rfl (fun b w hb hS=>?_) (zZ.less hf3) hy (hS.IE rfl) hN rfl h;show yZ (RI bf ks.2.2 ops bs i) κ1 w;unfold RI;rw[hq];exact hS.1
theorem oM(cK:dX P tt){ks:KB}(D:DK ks bf κ1)(hsel:Region.noSelect ops=true){κx:List Conc}{n:Nat}:∀(is:List Nat) (evs:List Kh) (bs:List Bool) (env:iJ) (YJ:List Bool) (mX:iJ) (p:List Int) (fuel:Nat),takeD N tt kn ks.2.2 bf n ops is evs bs env=some (YJ,mX,p,p)->WF env->XZ n env->KnC kn env->
 (WF mX->XZ n mX->WA P fx.px ops Kn (zZ ks bf κ1) fuel YJ N (lY (κ1++κx) mX) w)->zZ ks bf κ1 bs.toArray w->WA P fx.px ops Kn (zZ ks bf κ1) (fuel+is.length) bs N (lY (κ1++κx) env) w
 | [],evs,bs,env,YJ,mX,p,fuel,h,hw,hs,hkc,hk,S=>by
   simp only[takeD,Option.some.injEq,Prod.mk.injEq]at h;obtain⟨rfl,rfl,_⟩:=h;exact hk hw hs
 | i::is,evs,bs,env,YJ,mX,p,fuel,h,hw,hs,hkc,hk,S=>by
   have hK:∀w,yZ (RI bf ks.2.2 ops bs i) κ1 w->yZ (RI bf ks.2.2 ops bs i) (κ1++κx) w:=fun w h=>by
    unfold RI at h ⊢;split at h
    ·exact h.ext D.sc2
    ·exact h.ext D.sc
   rw[List.length_cons,← Nat.add_assoc];unfold takeD at h;split at h
   case h_2=>cases h
   rename_i d op t ps af gd hi hfr;split at h
   ·cases h
   ·rename_i hg;split at h
    ·rename_i hc;simp only[Bool.and_eq_true]at hc;exact oL hw hkc hsel hi hfr hc.2.1 S (.inl ⟨hg,rfl⟩) (oM cK D hsel is evs _ _ YJ mX p fuel h (hw.push rfl hc.1) (hs.push rfl) (hkc.push hc.2.2) hk (S.IE rfl))
    ·cases h
   ·rename_i pa g hg;have hf:=O3 hg;split at h
    ·cases h
    ·rename_i hc;simp only[Bool.and_eq_true]at hc;obtain⟨hfr2,hN,hnk⟩:=hc;split at h
     ·rename_i c x y;split at h
      ·rename_i s;split at h
       ·rename_i b hkb;split at h
        ·rename_i g0 v0 v hl hv;split at h
         ·rename_i hvl;refine oL hw hkc hsel hi hfr hN S (.inr ⟨hg,fun hgt w hS=>?_⟩) (oM cK D hsel is evs _ _ YJ mX p fuel h (hw.push hf hfr2) (hs.push hvl) (hkc.push hnk) hk (S.IE rfl));have hv0:=hkc s b hkb v0 g0 hl;have hls:=ku (κ:=κ1++κx) hl;have hg0:g0=true:=hw s _ hl;subst hg0;simp only[qV,SV.den,Cell.den]at hls;have hev:=rY (κ:=κ1++κx) hw hf hgt hf hgt _ _ hv;cases b with
          | true=>exact xC hls hv0 hev
          | false=>exact xD hls hv0 hev
         ·cases h
        ·cases h
       ·split at h
        ·rename_i v hcx;split at h
         ·rename_i ec hec;split at h
          ·rename_i z hz;have hzl:z.lt n=true:=by
            unfold D9 at hz;split at hz
            ·split at hz <;> (injection hz with hz;subst hz;rfl)
            ·cases hz
           exact oL hw hkc hsel hi hfr hN S (.inr ⟨hg,fun hgt w hS=>Mr hw hf hgt hcx hec hz⟩) (oM cK D hsel is evs _ _ YJ mX p fuel h (hw.push hf hfr2) (hs.push hzl) (hkc.push hnk) hk (S.IE rfl))
          ·cases h
         ·cases h
        ·cases h
      ·cases h
     ·split at h
      ·rename_i v hv;split at h
       ·rename_i hvl;exact oL hw hkc hsel hi hfr hN S (.inr ⟨hg,fun hgt w hS=>FJ cK (hK w hS) (rY hw hf hgt hf hgt) hv⟩) (oM cK D hsel is evs _ _ YJ mX p fuel h (hw.push hf hfr2) (hs.push hvl) (hkc.push hnk) hk (S.IE rfl))
       ·cases h
      ·split at h
       ·rename_i e Gy _;have hgt:g=true:=hf;subst hgt;split at h
        ·rename_i v a b hv;split at h
         ·rename_i hvl;cases hr:takeD N tt kn ks.2.2 bf n ops is Gy (bs.set i true) ((d,⟨[],true,v⟩)::env)with
          | none=>simp[hr]at h
          | some q=>
            obtain⟨e1,i1,q1,q2⟩:=q;simp only[hr,Option.map_some,Option.some.injEq,Prod.mk.injEq]at h;obtain⟨rfl,rfl,h1,h2⟩:=h;rw[← h1]at h2;obtain⟨h3,h4⟩:=sD h2 (LY hv).symm;subst h3;subst h4;exact oL hw hkc hsel hi hfr hN S (.inr ⟨hg,fun hgt w hS=>KF cK (hK w hS) (rY hw (pa:=[]) (pb:=[]) rfl rfl rfl rfl) hv⟩) (oM cK D hsel is Gy _ _ _ _ _ fuel hr (hw.push hf hfr2) (hs.push hvl) (hkc.push hnk) hk (S.IE rfl))
         ·cases h
        ·cases h
       ·cases h
theorem SD.tk5{ks:KB}(cK:dX P tt)(D:DK ks bf κ1)(kn:List (Nat×Bool))(hkn:Uy kn env)(is:List Nat)(evs:List Kh)(q:List Int)(bs':List Bool)(env':bN){fuel':Nat}(hf:fuel=fuel'+is.length)(hsel:Region.noSelect ops=true)(hK:K3 ks bs its=KH ks bf bs)
 (h:Ih N tt kn ks.2.2 bf its.length ops is evs bs env (env'.map (·.1))=some (bs',env',q,q)) (hk:SD P ops Kn ks bf κ1 fuel' bs' N n0 fx env' its):SD P ops Kn ks bf κ1 fuel bs N n0 fx env its:=fun κx w S=>by
 unfold Ih at h;cases hr:takeD N tt kn ks.2.2 bf its.length ops is evs bs (toC env)with
 | none=>simp[hr]at h
 | some z=>
   obtain⟨e1,i1,q1,q2⟩:=z;cases ho:BI i1 (env'.map (·.1))with
   | none=>simp[hr,ho]at h
   | some e2=>
     simp only[hr,ho,Option.bind_some,Option.map_some,Option.some.injEq,Prod.mk.injEq]at h;obtain⟨rfl,rfl,rfl,rfl⟩:=h;rw[← JJ,hf];refine oM cK D hsel is evs bs (toC env) _ _ _ _ hr (Ux env) (fun t e he=>?_) (fun s b hs v g hl=>hkn s b hs v (vR hl).1) (fun hw hs=>?_) (S.K6 hK D)
     ·have h1:=S.qZ;unfold xB at h1;rw[List.all_eq_true]at h1;exact h1 _ (vQ (vR he).1)
     ·intro a ha;exact hk κx w (S.env (FY hs _ ho)) a (ha.sub (BH hw _ ho))
end
end V
end Go.Proofs.YtbgfhaahhdnogaaGreat
