/- Statements that leave their order open, described. -/
import Derived.Test.YtbgfhaahhdnogaaGreatCall
namespace Go.Proofs.YtbgfhaahhdnogaaGreat
namespace V
def mask:List Bool->List Item->List Item
 | true::ks,it::its=>it::mask ks its
 | false::ks,.k .. :: its=>.F6::mask ks its
 | false::ks,_::its=>.e::mask ks its
 | _,_=>[]
abbrev KB:=List Bool×List Bool×List Nat
abbrev KI:=List Item×List Item
def Mi(ks:KB)(bs:List Bool)(its:List Item):KI:=(mask ks.1 its,match MW ks.2.2 bs with
 | true=>[]
 | false=>mask ks.2.1 its)
def LH(ks:KB)(bg:KI)(bs:List Bool):KI:=(bg.1,match MW ks.2.2 bs with
 | true=>[]
 | false=>bg.2)
def Yd(kn:List (Nat×Bool))(s:Nat):Option Bool:=match kn with
 | []=>none
 | (t,b)::r=>match Nat.beq s t with
  | true=>some b
  | false=>Yd r s
def nC(kn:List (Nat×Bool))(ops:Array Oper)(env:iU):Option (Nat×Bool)->Option (Option (List (Nat×Bool)×Bool))
 | none=>some (some ([],true))
 | some (j,b)=>match (ops[j]?).bind (·.dst)with
   | some s=>(match Yd kn s with
     | some b'=>(match vJ s env with
       | some ⟨[],_,.c (.v (.bool _))⟩=>(match EI b b' with
         | true=>some (some ([],true))
         | false=>some none)
       | some ⟨[],_,.u []⟩=>some none
       | _=>none)
     | none=>(match vJ s env with
       | some ⟨[],_,.u []⟩=>some none
       | _=>(rR ops env (some (j,b))).map some))
   | none=>none
def Ub(bg:KI)(brk:List Nat)(ops:Array Oper)(bs:List Bool)(i:Nat):List Item:=match !MW brk bs&&o9 ops brk i with
 | true=>bg.2
 | false=>bg.1
def takeD(N:Nat)(tt:TT)(kn:List (Nat×Bool))(brk:List Nat)(bg:KI)(n:Nat)(ops:Array Oper):List Nat->List Le->List Bool->iU->Option (List Bool×iU×List Int×List Int)
 | [],_,bs,env=>some (bs,env,[],[])
 | i::is,evs,bs,env=>match ops[i]?,(Region.free .any ops bs.toArray i&&(Region.ready .any ops bs.toArray).contains i)&&brk.all (fun j=>!Nat.beq j i)with
   | some ⟨some d,op,_,_,_,gd⟩,true=>(match nC kn ops env gd with
     | none=>none
     | some none=>(match free? d env []&&(Nat.blt d N&&(Yd kn d).isNone)with
       | true=>takeD N tt kn brk bg n ops is evs (bs.set i true) ((d,⟨[],true,.u []⟩)::env)
       | false=>none)
     | some (some (pa,g))=>(match free? d env pa&&(Nat.blt d N&&(Yd kn d).isNone)with
       | false=>none
       | true=>(match op with
         | .pick c x y=>(match c with
           | .tmp s=>(match Yd kn s with
             | some b=>(match vJ s env,Ay env pa pa (match b with | true=>x | false=>y)with
               | some ⟨[],_,.c (.v (.bool _))⟩,some v=>(match v.lt n with
                 | true=>takeD N tt kn brk bg n ops is evs (bs.set i true) ((d,⟨pa,g,v⟩)::env)
                 | false=>none)
               | _,_=>none)
             | none=>(match Ay env pa pa c with
               | some (.c (.v (.bool v)))=>(match vJ s env with
                 | some ec=>(match Fy x y v (Ay env pa ((s,true)::ec.pa) x) (Ay env pa ((s,false)::ec.pa) y)with
                   | some z=>takeD N tt kn brk bg n ops is evs (bs.set i true) ((d,⟨pa,g,z⟩)::env)
                   | none=>none)
                 | none=>none)
               | _=>none))
           | _=>none)
         | op=>(match uR tt (fun _=>true) (Ub bg brk ops bs i) (Ay env pa pa) op with
           | some v=>(match v.lt n with
             | true=>takeD N tt kn brk bg n ops is evs (bs.set i true) ((d,⟨pa,g,v⟩)::env)
             | false=>none)
           | none=>(match evs,pa with
             | ev::Ii,[]=>(match svE tt (Ub bg brk ops bs i) (Ay env [] []) op ev with
               | some (v,a,b)=>(match v.lt n with
                 | true=>(takeD N tt kn brk bg n ops is Ii (bs.set i true) ((d,⟨[],true,v⟩)::env)).map fun q=>(q.1,q.2.1,a++q.2.2.1,b++q.2.2.2)
                 | false=>none)
               | none=>none)
             | _,_=>none)))))
   | _,_=>none
def Jg(N:Nat)(tt:TT)(kn:List (Nat×Bool))(brk:List Nat)(bg:KI)(n:Nat)(ops:Array Oper)(is:List Nat)(evs:List Le)(bs:List Bool)(env:bP)(ts:List Nat):Option (List Bool×bP×List Int×List Int):=
 (takeD N tt kn brk bg n ops is evs bs (toC env)).bind fun q=>(Cw q.2.1 ts).map fun e=>(q.1,e,q.2.2)
section
variable {P:Program} {N n0:Nat} {fx:Fx} {its aR:List Item} {bg:KI} {κ κ1:List Conc} {w:World} {env env':bP} {tt:TT} {ops:Array Oper} {Kn:Act->World->Prop} {Ke:Nat->Act->World->Prop} {Kr:Act->World->Prop} {kn:List (Nat×Bool)} {bs bs':List Bool} {fuel:Nat}
theorem CR:∀{ks} {its} {i:Nat} {it},(mask ks its)[i]?=some it->it=.e\/its[i]?=some it\/(it=.F6/\∃T cs,its[i]?=some (.k T cs))
 | [],its,i,it,h=>by cases its<;>simp[mask]at h
 | b::ks,[],i,it,h=>by cases b<;>simp[mask]at h
 | true::ks,x::its,0,it,h=>by simp[mask]at h;exact .inr (.inl (by simp[h]))
 | false::ks,x::its,0,it,h=>by
   cases x with
   | k T cs=>simp[mask]at h;exact .inr (.inr ⟨h.symm,T,cs,rfl⟩)
   | _=>simp[mask]at h;exact .inl h.symm
 | true::ks,x::its,i+1,it,h=>by simp[mask]at h;simpa using CR h
 | false::ks,x::its,i+1,it,h=>by
   have h':(mask ks its)[i]?=some it:=by cases x<;>simpa [mask]using h
   simpa using CR h'
theorem OK.cut{κ κx it c U}(hsc:it.lt κ.length=true)(h:OK (κ++κx) U w it c):OK κ U w it c:=by
 cases it with
 | k Ty cs=>cases c with
   | b n=>
     simp only[OK]at h |-;rw[gT hsc]at h;exact h
   | _=>exact h.elim
 | elt src ow cs=>cases c with
   | a ad=>
     cases src with
     | none=>
       simp only[OK]at h |-;rw[gT (by simpa [Item.lt]using hsc)]at h;exact h
     | some q=>
       obtain⟨i,iv⟩:=q;simp only[Item.lt,Bool.and_eq_true,Nat.blt_eq]at hsc;simp only[OK]at h |-;rw[gT hsc.2]at h;obtain⟨h1,h2,A,n,c,h3,h4⟩:=h;exact⟨h1,h2,A,n,c,by rwa [List.getElem?_append_left hsc.1]at h3,h4⟩
   | _=>cases src<;>exact h.elim
 | o sz E R l=>cases c with
   | r A n c=>exact h
   | _=>exact h.elim
 | d sz R l=>cases c with
   | r A n c=>exact h
   | _=>exact h.elim
 | mp k R ow l=>cases c with
   | m b=>cases ow<;>exact h
   | _=>cases ow<;>exact h.elim
 | lm k l=>cases c with
   | m b=>
     simp only[OK]at h |-;have e:(l.map fun p=>(p.1,p.2.den (κ++κx)))=l.map fun p=>(p.1,p.2.den κ):=List.map_congr_left fun p hp=>by
      simp only[Item.lt,List.all_eq_true]at hsc;rw[uy (hsc p hp)]
     rwa [e]at h
   | _=>exact h.elim
 | str s=>cases c with
   | s x=>exact h
   | _=>exact h.elim
 | F6=>cases c with
   | b n=>exact h
   | _=>exact h.elim
 | e=>trivial
theorem zJ.ext{κx}(hs:oP κ.length its=true)(h:zJ its κ w):zJ its (κ++κx) w:=fun i it hi=>by
 obtain⟨c,U,h1,h2⟩:=h i it hi;have hlt:i<κ.length:=(List.getElem?_eq_some_iff.1 h1).1;unfold oP at hs;rw[List.all_eq_true]at hs;exact⟨c,U,by rw[List.getElem?_append_left hlt];exact h1,OK.ext (hs it (List.mem_of_getElem? hi)) (fun _ h=>h) h2⟩
theorem St.knoK{ks bg its κ1 κx}(S:St n0 fx env its (κ1++κx) w)(hK:mask ks its=bg)(hl:bg.length<=κ1.length)(hs:oP κ1.length bg=true):zJ bg κ1 w:=fun i it hi=>by
 have hlt:i<κ1.length:=Nat.lt_of_lt_of_le (List.getElem?_eq_some_iff.1 hi).1 hl;have hc:κ1[i]?=some κ1[i]:=List.getElem?_eq_getElem hlt;refine⟨κ1[i],Mu fx.U0 (dL its (κ1++κx)),hc,?_⟩;have hsc:it.lt κ1.length=true:=by
  unfold oP at hs;rw[List.all_eq_true]at hs;exact hs it (List.mem_of_getElem? hi)
 rw[<-hK]at hi;rcases CR hi with rfl|h|⟨rfl,T,cs,h⟩
 .cases κ1[i]<;>trivial
 rotate_left
 .have:=S.ok i _ κ1[i] h (by rw[List.getElem?_append_left hlt];exact hc);cases hk:κ1[i]with
  | b n=>trivial
  | _=>rw[hk]at this;exact this.elim
 .exact OK.cut hsc (S.ok i it _ h (by rw[List.getElem?_append_left hlt];exact hc))
def AQ(ks:KB)(bg:KI)(κ1:List Conc)(b:Array Bool)(w:World):Prop:=zJ bg.1 κ1 w/\(yU ks.2.2 b=false->zJ bg.2 κ1 w)
structure DK(ks:KB)(bg:KI)(κ1:List Conc):Prop where
 sc:oP κ1.length bg.1=true
 eq:bg.1.length=κ1.length
 sc2:oP κ1.length bg.2=true
 eq2:bg.2.length=κ1.length
theorem St.Mq{ks bg its κ1 κx bs}(S:St n0 fx env its (κ1++κx) w)(hK:Mi ks bs its=LH ks bg bs)(D:DK ks bg κ1):AQ ks bg κ1 bs.toArray w:=by
 unfold Mi LH at hK;injection hK with h1 h2;refine⟨S.knoK h1 (by rw[D.eq];exact Nat.le_refl _) D.sc,fun h=>?_⟩;rw[FZ]at h;rw[h]at h2;exact S.knoK h2 (by rw[D.eq2];exact Nat.le_refl _) D.sc2
theorem AQ.mono{ks bg κ1 b i}(h:AQ ks bg κ1 b w):AQ ks bg κ1 (b.setIfInBounds i true) w:=⟨h.1,fun hb=>h.2 (QK hb)⟩
theorem AQ.less{ks bg κ1}{i:Nat}(hi:ks.2.2.all (fun j=>!Nat.beq j i)=true)b w(h:AQ ks bg κ1 (b.setIfInBounds i true) w):AQ ks bg κ1 b w:=⟨h.1,fun hb=>h.2 (xA hb fun hm=>by
 rw[List.all_eq_true]at hi;have:=hi i hm;simp at this)⟩
theorem AQ.Ju{ks bg κ1}{bs bs':List Bool}{i}(hb:bs.set i true=bs')(h:AQ ks bg κ1 bs.toArray w):AQ ks bg κ1 bs'.toArray w:=by
 have:=h.mono (i:=i);rw[<-hb];simpa using this
def SD(P:Program)(ops:Array Oper)(Kn:Act->World->Prop)(ks:KB)(bg:KI)(κ1:List Conc)(fuel:Nat)(bs:List Bool)(N n0:Nat)(fx:Fx)(env:bP)(its:List Item):Prop:=
 ∀κx w,St n0 fx env its (κ1++κx) w->WA P fx.px ops Kn (AQ ks bg κ1) fuel bs N (fD (κ1++κx) env) w
def SW(P:Program)(ops:Array Oper)(Kn:Act->World->Prop)(ks:KB)(bg:KI)(κ1:List Conc)(fuel:Nat)(bs:List Bool)(N n0:Nat)(fx:Fx)(env:bP)(its:List Item)(i:Nat):Prop:=
 ∀κx w,St n0 fx env its (κ1++κx) w->WS P fx.px ops Kn (AQ ks bg κ1) fuel bs N (fD (κ1++κx) env) w i
def FL(ks:List Bool)(its:List Item):Bool:=!its.any Item.ow&&(oP its.length (mask ks its)&&Nat.beq (mask ks its).length its.length)
theorem Z.rY{id}{os:List Oper}(hm:P.follows .mixedOrders=true)ks(hB:(FL ks.1 its&&FL ks.2.1 its)=true)(h:∀κ1,DK ks (mask ks.1 its,mask ks.2.1 its) κ1->SD P os.toArray Kn ks (mask ks.1 its,mask ks.2.1 its) κ1 os.length (List.replicate os.length false) N n0 fx env its):Z P (.region id os.toArray true) Kn Ke Kr N n0 fx env its:=fun κ w S=>by
 simp only[FL,Bool.and_eq_true,Bool.not_eq_true']at hB;obtain⟨⟨hB1,hB2,hB3⟩,_,hB5,hB6⟩:=hB;refine WC.draw (AQ ks (mask ks.1 its,mask ks.2.1 its) κ) hm S.ctx fun w' C T=>?_;have S':St n0 fx env its (κ++[]) w':=by
  refine S.next (fun _=>False) (by simp[S.len]) S.sj S.Fe (by rw[List.append_nil];exact C) (by rw[List.append_nil];exact T) (fun i it _ _ h=>⟨h,Hy hB1 _ (List.mem_of_getElem? h),fun _ _ _ _=>by simp⟩) (fun i it c hi h1 _=>?_);have:=(List.getElem?_eq_some_iff.1 h1).1;rcases hi with hi|hi
  .omega
  .exact hi.elim
 have:=h κ ⟨by rw[S.len];exact hB2,by rw[S.len];exact Nat.eq_of_beq_eq_true hB3,by rw[S.len];exact hB5,by rw[S.len];exact Nat.eq_of_beq_eq_true hB6⟩ [] w' S';rwa [List.append_nil]at this
theorem Z.draw{id}{os:List Oper}(hm:P.follows .mixedOrders=true)ks(hB:FL ks its=true)(h:∀κ1,DK (ks,ks,[]) (mask ks its,mask ks its) κ1->SD P os.toArray Kn (ks,ks,[]) (mask ks its,mask ks its) κ1 os.length (List.replicate os.length false) N n0 fx env its):Z P (.region id os.toArray true) Kn Ke Kr N n0 fx env its:=
 Z.rY hm (ks,ks,[]) (by show(FL ks its&&FL ks its)=true;rw[hB];rfl) h
theorem SD.done{ks}(hr:Region.ready .any ops bs.toArray=[])(h:∀a w,A N n0 fx env its a w->Kn a w):SD P ops Kn ks bg κ1 fuel bs N n0 fx env its:=fun κx w S=>WA.done hr fun a ha=>h a w ⟨_,ha,S⟩
theorem SD.fM{ks y DJ}(hr:Region.ready .any ops bs.toArray=[])(h:Z P y DJ Ke Kr N n0 fx env its):SD P ops (fun a w=>IL P fx.px y DJ Ke Kr a w) ks bg κ1 fuel bs N n0 fx env its:=fun κx w S=>WA.fM hr (h _ w S)
theorem SD.all1{ks i}(hr:Region.ready .any ops bs.toArray=[i])(h:SW P ops Kn ks bg κ1 fuel bs N n0 fx env its i):SD P ops Kn ks bg κ1 (fuel+1) bs N n0 fx env its:=fun κx w S=>WA.all1 hr (h κx w S)
theorem SD.all2{ks i j}(hr:Region.ready .any ops bs.toArray=[i,j])(h:SW P ops Kn ks bg κ1 fuel bs N n0 fx env its i)(h2:SW P ops Kn ks bg κ1 fuel bs N n0 fx env its j):SD P ops Kn ks bg κ1 (fuel+1) bs N n0 fx env its:=fun κx w S=>WA.all2 hr (h κx w S) (h2 κx w S)
theorem SD.norm{ks bC}(h:its=bC)(hk:SD P ops Kn ks bg κ1 fuel bs N n0 fx env bC):SD P ops Kn ks bg κ1 fuel bs N n0 fx env its:=h▸hk
theorem SD.pre{ks}(h:Pre n0 fx env its aR)(hk:SD P ops Kn ks bg κ1 fuel bs N n0 fx env aR):SD P ops Kn ks bg κ1 fuel bs N n0 fx env its:=fun κx w S=>by
 obtain⟨κy,S'⟩:=h _ w S;have e:fD (κ1++κx++κy) env=fD (κ1++κx) env:=jX (by rw[S.len];exact S.sj);have:=hk (κx++κy) w (by rw[<-List.append_assoc];exact S');rw[<-List.append_assoc,e]at this;exact this
theorem SD.lay{ks}fuel' bs' env2 nW(h:SD P ops Kn ks bg κ1 fuel' bs' N n0 fx env2 nW)(k:SD P ops Kn ks bg κ1 fuel' bs' N n0 fx env2 nW->SD P ops Kn ks bg κ1 fuel bs N n0 fx env its):SD P ops Kn ks bg κ1 fuel bs N n0 fx env its:=k h
theorem SD.view{ks}(D:DK ks bg κ1)js(hk:SD P ops Kn ks bg κ1 fuel bs N n0 fx env' aR)(e:(preB bg.1.length js,Hf js env',j5 js aR,DW n0 its.length js env' aR (qY env env') (srcs its js aR))=(true,qY env env',srcs its js aR,true)):SD P ops Kn ks bg κ1 fuel bs N n0 fx env its:=fun κx w S a ha=>by
 injection e with e0 e;injection e with e1 e;injection e with e2 hB;have hB':=hB;simp only[DW,Bool.and_eq_true]at hB;obtain⟨b1,b2,b3,b4,b5,b6,b7⟩:=hB;obtain⟨en,he⟩:=Option.isSome_iff_exists.1 b6;have S':=S.view e2 (by
  simp only[DW,Bool.and_eq_true];exact⟨b1,b2,b3,b4,b5,rfl,b7⟩)
 have hpre:(js.map (cJ (κ1++κx))).take κ1.length=κ1:=by
  unfold preB at e0;rw[List.all_eq_true]at e0;apply List.ext_getElem?;intro i;rw[List.getElem?_take];by_cases hi:i<κ1.length
  .rw[if_pos hi,List.getElem?_map];have:=e0 i (List.mem_range.2 (by rw[D.eq];exact hi));split at this
   .rename_i k hk;have hki:=Nat.eq_of_beq_eq_true this;subst hki;rw[hk];simp[cJ,List.getElem?_append_left hi,List.getElem?_eq_getElem hi]
   .cases this
  .rw[if_neg hi,List.getElem?_eq_none (by omega)]
 have hsp:js.map (cJ (κ1++κx))=κ1++(js.map (cJ (κ1++κx))).drop κ1.length:=by
  have:=List.take_append_drop κ1.length (js.map (cJ (κ1++κx)));rw[hpre]at this;exact this.symm
 have h5:=hk ((js.map (cJ (κ1++κx))).drop κ1.length) w (by rw[<-hsp];exact S');rw[<-hsp]at h5;exact h5 a (ha.sub (wF (by rw[S.len];exact oK b2) (e1.trans he) he))
def Jd:Item->Item
 | .elt (some _) false cs=>.elt none false cs
 | it=>it
def sG:List Item->List Item
 | []=>[]
 | it::r=>Jd it::sG r
def elQ:Item->Option (Nat×Int×Nat)
 | .elt (some (i,iv)) false cs=>some (i,iv,cs.length)
 | _=>none
def elG(its:List Item):Jx->Option (Nat×Int×Nat)->Option (Nat×Int×Nat)
 | _,none=>none
 | .g k,some _=>match its[k]? with
   | some (.elt (some (i,iv)) _ cs)=>some (i,iv,cs.length)
   | _=>none
 | _,some _=>none
def elS(its:List Item):List Jx->List Item->List (Option (Nat×Int×Nat))
 | j::js,t::ts=>elG its j (elQ t)::elS its js ts
 | _,_=>[]
def elT:List Item->List (Option (Nat×Int×Nat))
 | t::ts=>elQ t::elT ts
 | []=>[]
def elB(base:Nat):List Item->Bool
 | t::ts=>(match elQ t with
   | some (i,_)=>Nat.blt i base
   | none=>true)&&elB base ts
 | []=>true
theorem tX:∀{l},(sG l).length=l.length
 | []=>rfl
 | _::l=>by simp[sG,tX (l:=l)]
theorem xV:∀{l} {j:Nat} {it},l[j]?=some it->(sG l)[j]?=some (Jd it)
 | [],_,_,h=>by simp at h
 | _::_,0,_,h=>by simp at h;subst h;rfl
 | _::l,j+1,_,h=>by
   simp only[List.getElem?_cons_succ]at h;simp only[sG,List.getElem?_cons_succ];exact xV h
theorem O0 it c:iM (Jd it) c=iM it c:=by
 unfold Jd;split
 .cases c<;>rfl
 .rfl
theorem xW:∀{l} {κ},dL (sG l) κ=dL l κ
 | [],_=>rfl
 | _::_,[]=>rfl
 | it::l,c::κ=>by
   have:=xW (l:=l) (κ:=κ);unfold dL at this |-;simp only[sG,List.zipWith_cons_cons,O0,this]
theorem BH it:(Jd it=it/\elQ it=none)\/∃i iv cs,it=.elt (some (i,iv)) false cs:=by
 cases it with
 | elt src ow cs=>cases src with
   | none=>exact .inl ⟨rfl,rfl⟩
   | some q=>obtain⟨i,iv⟩:=q;cases ow with
     | true=>exact .inl ⟨rfl,rfl⟩
     | false=>exact .inr ⟨i,iv,cs,rfl⟩
 | _=>exact .inl ⟨rfl,rfl⟩
theorem Il:∀{base} {l} {j:Nat} {i} {iv} {cs},elB base l=true->l[j]?=some (.elt (some (i,iv)) false cs)->i<base
 | _,[],_,_,_,_,_,h=>by simp at h
 | _,t::l,0,_,_,_,hb,h=>by
   simp only[List.getElem?_cons_zero]at h;injection h with h;subst h;simp only[elB,Bool.and_eq_true]at hb;simpa [elQ]using hb.1
 | _,t::l,j+1,_,_,_,hb,h=>by
   simp only[List.getElem?_cons_succ]at h;simp only[elB,Bool.and_eq_true]at hb;exact Il hb.2 h
theorem Om{its}:∀{js} {l} {j:Nat} {i} {iv} {cs},elS its js l=elT l->l[j]?=some (.elt (some (i,iv)) false cs)->∃k ow cs2,js[j]?=some (.g k)/\its[k]?=some (.elt (some (i,iv)) ow cs2)/\cs2.length=cs.length
 | _,[],_,_,_,_,_,h=>by simp at h
 | [],t::l,_,_,_,_,he,_=>by simp[elS,elT]at he
 | q::js,t::l,0,i,iv,cs,he,h=>by
   simp only[List.getElem?_cons_zero]at h;injection h with h;subst h;simp only[elS,elT,List.cons.injEq]at he;have h1:=he.1;simp only[elQ]at h1;cases q with
   | g k=>
     simp only[elG]at h1;split at h1
     .rename_i i' iv' ow cs' hk;simp only[Option.some.injEq,Prod.mk.injEq]at h1;obtain⟨rfl,rfl,h3⟩:=h1;exact⟨k,_,_,rfl,hk,h3⟩
     .cases h1
   | _=>simp[elG]at h1
 | q::js,t::l,j+1,_,_,_,he,h=>by
   simp only[List.getElem?_cons_succ]at h |-;simp only[elS,elT,List.cons.injEq]at he;exact Om he.2 h
theorem SD.kG{ks}(D:DK ks bg κ1)js(hk:SD P ops Kn ks bg κ1 fuel bs N n0 fx env' aR)(e:(preB bg.1.length js,Hf js env',j5 js (sG aR),elS its js aR,DW n0 its.length js env' (sG aR) (qY env env') (srcs its js (sG aR)),elB bg.1.length aR)=(true,qY env env',srcs its js (sG aR),elT aR,true,true)):SD P ops Kn ks bg κ1 fuel bs N n0 fx env its:=fun κx w S a ha=>by
 injection e with e0 e;injection e with e1 e;injection e with e2 e;injection e with e3 e;injection e with hB e4;simp only[DW,Bool.and_eq_true]at hB;obtain⟨b1,b2,b3,b4,b5,b6,b7⟩:=hB;obtain⟨en,he⟩:=Option.isSome_iff_exists.1 b6;have S':=S.view e2 (by
  simp only[DW,Bool.and_eq_true];exact⟨b1,b2,b3,b4,b5,rfl,b7⟩)
 have hpre:(js.map (cJ (κ1++κx))).take κ1.length=κ1:=by
  unfold preB at e0;rw[List.all_eq_true]at e0;apply List.ext_getElem?;intro i;rw[List.getElem?_take];by_cases hi:i<κ1.length
  .rw[if_pos hi,List.getElem?_map];have:=e0 i (List.mem_range.2 (by rw[D.eq];exact hi));split at this
   .rename_i k hk;have hki:=Nat.eq_of_beq_eq_true this;subst hki;rw[hk];simp[cJ,List.getElem?_append_left hi,List.getElem?_eq_getElem hi]
   .cases this
  .rw[if_neg hi,List.getElem?_eq_none (by omega)]
 have hsp:js.map (cJ (κ1++κx))=κ1++(js.map (cJ (κ1++κx))).drop κ1.length:=by
  have:=List.take_append_drop κ1.length (js.map (cJ (κ1++κx)));rw[hpre]at this;exact this.symm
 have hlen:(js.map (cJ (κ1++κx))).length=aR.length:=by rw[S'.len,tX]
 have hle:κ1.length<=aR.length:=by
  rw[<-hlen,hsp];simp
 have hS:St n0 fx env' aR (js.map (cJ (κ1++κx))) w:=by
  refine⟨hlen,S'.pre,S'.n0,by have:=S'.sj;rwa [tX]at this,?_,by have:=S'.ctx;rwa [xW]at this,fun j it c h1 h2=>?_⟩
  .have hs:=S'.Fe;unfold oP at hs |-;rw[List.all_eq_true]at hs |-;intro it hit;obtain⟨j,hj⟩:=List.getElem?_of_mem hit;have h3:=hs _ (List.mem_of_getElem? (xV hj));rw[tX]at h3;rcases BH it with⟨h4,_⟩|⟨i,iv,cs,rfl⟩
   .rwa [h4]at h3
   .have hi:=Il e4 hj;rw[D.eq]at hi;simp only[Jd,Item.lt]at h3;simp only[Item.lt,Bool.and_eq_true,Nat.blt_eq];exact⟨by omega,h3⟩
  .have h3:=S'.ok j (Jd it) c (xV h1) h2;rw[xW]at h3;rcases BH it with⟨h4,_⟩|⟨i,iv,cs,rfl⟩
   .rwa [h4]at h3
   .obtain⟨k,ow,cs2,g1,g2,g3⟩:=Om e3 h1;have hi:=Il e4 h1;rw[D.eq]at hi;have g4:(κ1++κx)[k]?=some c:=by
     rw[List.getElem?_map,g1]at h2;have hkl:k<(κ1++κx).length:=by
      rw[S.len];exact(List.getElem?_eq_some_iff.1 g2).1
     simp only[Option.map_some,Option.some.injEq,cJ]at h2;rw[List.getElem?_eq_getElem hkl]at h2 |-;simpa using h2
    have h5:=S.ok k _ c g2 g4;cases c with
    | a ad=>
      simp only[Jd,OK]at h3;simp only[OK]at h5 |-;obtain⟨_,_,A,n,c',q1,q2,q3,q4⟩:=h5;refine⟨by simpa using h3.1,h3.2,A,n,c',?_,by rw[<-g3];exact q2,q3,q4⟩;rw[hsp,List.getElem?_append_left hi];rwa [List.getElem?_append_left hi]at q1
    | _=>exact h3.elim
 have h5:=hk ((js.map (cJ (κ1++κx))).drop κ1.length) w (by rw[<-hsp];exact hS);rw[<-hsp]at h5;exact h5 a (ha.sub (wF (by rw[S.len];exact oK b2) (e1.trans he) he))
theorem SW.pre{ks i}(h:Pre n0 fx env its aR)(hk:SW P ops Kn ks bg κ1 fuel bs N n0 fx env aR i):SW P ops Kn ks bg κ1 fuel bs N n0 fx env its i:=fun κx w S=>by
 obtain⟨κy,S'⟩:=h _ w S;have e:fD (κ1++κx++κy) env=fD (κ1++κx) env:=jX (by rw[S.len];exact S.sj);have:=hk (κx++κy) w (by rw[<-List.append_assoc];exact S');rw[<-List.append_assoc,e]at this;exact this
theorem SW.p8{ks}{i d:Nat}{oi v}(D:DK ks bg κ1)(hi:ops[i]?=some oi)(hg:oi.guard=none\/∃j b s x,oi.guard=some (j,b)/\(ops[j]?).bind (·.dst)=some s/\EA s env=some (vb x)/\x=b)(hd:oi.dst=some d)(he:Eff P N n0 fx env its oi (some v) aR)(hN:(Nat.blt d N&&v.lt aR.length)=true)(hb:bs.set i true=bs')(hK:Mi ks bs' aR=LH ks bg bs')
 (hk:SD P ops Kn ks bg κ1 fuel bs' N n0 fx ((d,v)::env) aR):SW P ops Kn ks bg κ1 fuel bs N n0 fx env its i:=fun κx w S a ha=>by
 simp only[Bool.and_eq_true]at hN;have hw:Region.wanted oi (yielded ops a.tmps)=true:=by
  rcases hg with hg|⟨j,b,s,x,hg,hj,hs,hx⟩
  .simp[Region.wanted,hg]
  .have hl:=iZ (κ:=κ1++κx) hs;simp only[SV.den,Cell.den]at hl;simp[Region.wanted,hg,uQ hj hl ha,hx]
 unfold wpOp;simp only[hi,hw,if_true];refine .inl ?_;unfold Oper.wp;have key:∀ov w',(∃κy,(∀x,some v=some x->ov=some (x.den (κ1++κx++κy)))/\St n0 fx env aR (κ1++κx++κy) w')->∀u,ov=some u->AQ ks bg κ1 (bs.toArray.setIfInBounds i true) w'/\oO P ops (QN fx.px Kn) (AQ ks bg κ1) fuel (bs.toArray.setIfInBounds i true) (a.put (some d) u) w':=by
  have e:bs.toArray.setIfInBounds i true=bs'.toArray:=by rw[<-hb];simp
  rw[e];rintro ov w' ⟨κy,h1,S'⟩ u hu;have:=h1 v rfl;rw[hu]at this;injection this with this;subst this;rw[List.append_assoc]at S';refine⟨S'.Mq hK D,?_⟩;have h3:=hk (κx++κy) w' (S'.env (by
   have:=S'.sj;unfold yh at this |-;simp[hN.2,this]))
  have h2:fD (κ1++(κx++κy)) ((d,v)::env)=(d,v.den (κ1++κx++κy))::fD (κ1++κx) env:=by
   rw[<-List.append_assoc];show(d,v.den (κ1++κx++κy))::fD (κ1++κx++κy) env=_;rw[jX (by rw[S.len];exact S.sj)]
  rw[h2]at h3;exact h3 _ (ha.put hN.1)
 rcases he _ w S a ha with⟨u,w',h1,h2⟩|⟨w',h1,h2⟩|⟨f,args,h1,h2⟩
 .rw[h1];simp only[Oper.upon,hd];exact key _ _ h2 u rfl
 .obtain⟨κy,h3,_⟩:=h2;exact absurd (h3 v rfl) (by simp)
 .rw[h1];refine Calls.mono h2 fun e w' hq=>?_;obtain⟨u,rfl,hv⟩:=hq;simp only[hd];exact key _ _ hv u rfl
theorem SW.store{ks i q op t ps af T cs}(D:DK ks bg κ1)(bZ:eu P tt)(hi:ops[i]?=some ⟨none,op,t,ps,af,none⟩)(hst:stR tt its (jN env) op=some (q,T,cs))(how:its.any Item.ow=false)(hb:bs.set i true=bs')(hK:Mi ks bs' (lF its q T cs)=LH ks bg bs')
 (hk:SD P ops Kn ks bg κ1 fuel bs' N n0 fx env (lF its q T cs)):SW P ops Kn ks bg κ1 fuel bs N n0 fx env its i:=fun κx w S a ha=>by
 obtain⟨w',h1,S'⟩:=RP (N:=N) (t:=t) (ps:=ps) (af:=af) (gd:=none) bZ S (Hy how) (fun x v h=>eD h) hst a ha;unfold wpOp;simp only[hi,Region.wanted,if_true];refine .inl ?_;unfold Oper.wp;rw[h1];have h4:=hk κx w' S' _ ha;have e:bs.toArray.setIfInBounds i true=bs'.toArray:=by rw[<-hb];simp
 rw[e];exact⟨S'.Mq hK D,h4⟩
theorem nE{o v}(bZ:eu P tt)(h:uR tt (fun _=>true) its (jN env) o.op=some v):Eff P N n0 fx env its o (some v) its:=fun κ w S a ha=>by
 obtain⟨d,op,t,ps,af,g⟩:=o;exact .inl ⟨_,w,GI bZ S.NZ (fun x v h=>eD h) h a ha,[],fun x hx=>(by injection hx with hx;subst hx;rw[List.append_nil]),by rw[List.append_nil];exact S⟩
def V9(kn:List (Nat×Bool))(env:bP):Prop:=∀s b,Yd kn s=some b->∀v,EA s env=some (vb v)->v=b
theorem mD:V9 [] env:=fun s b h=>by cases h
theorem qZ{s b v}(h1:EA s env=some (vb v))(h2:v=b)(hr:V9 kn env):V9 ((s,b)::kn) env:=fun t b' h v' hv'=>by
 simp only[Yd]at h;split at h
 .rename_i he;injection h with h;subst h;rw[Nat.eq_of_beq_eq_true he,h1]at hv';injection hv' with hv';injection hv' with hv';injection hv' with hv';injection hv' with hv';exact hv'▸h2
 .exact hr t b' h v' hv'
theorem Qv{env gd pa g}(h:nC kn ops env gd=some (some (pa,g))):Fits env pa g:=by
 cases gd with
 | none=>
   simp only[nC,Option.some.injEq,Prod.mk.injEq]at h;obtain⟨rfl,rfl⟩:=h;exact rfl
 | some q=>
   obtain⟨j,b⟩:=q;simp only[nC]at h;split at h
   .split at h
    .split at h
     .split at h
      .simp only[Option.some.injEq,Prod.mk.injEq]at h;obtain⟨rfl,rfl⟩:=h;exact rfl
      .cases h
     .cases h
     .cases h
    .split at h
     .cases h
     .cases hp:rR ops env (some (j,b))with
      | none=>simp[hp]at h
      | some q=>
        simp only[hp,Option.map_some,Option.some.injEq]at h;subst h;exact wU hp
   .cases h
def KnC(kn:List (Nat×Bool))(env:iU):Prop:=∀s b,Yd kn s=some b->∀v g,vJ s env=some ⟨[],g,vb v⟩->v=b
theorem KnC.push{env}(h:KnC kn env){d e}(hd:(Yd kn d).isNone=true):KnC kn ((d,e)::env):=fun s b hs v g hl=>by
 simp only[vJ]at hl;cases hb:Nat.beq s d with
 | true=>
   rw[<-Nat.eq_of_beq_eq_true hb,hs]at hd;cases hd
 | false=>
   rw[hb]at hl;exact h s b hs v g hl
theorem WB{env}(hw:WF env)(hk:KnC kn env){o a}(ha:Holds N (mh κ env) a):(∀pa g,nC kn ops env o.guard=some (some (pa,g))->Region.wanted o (yielded ops a.tmps)=g)/\(nC kn ops env o.guard=some none->Region.wanted o (yielded ops a.tmps)=false):=by
 cases hgd:o.guard with
 | none=>
   refine⟨fun pa g h=>?_,fun h=>by cases h⟩;simp only[nC,Option.some.injEq,Prod.mk.injEq]at h;simp[Region.wanted,hgd,h.2.symm]
 | some q=>
   obtain⟨j,b⟩:=q;have yb:∀s v,(ops[j]?).bind (·.dst)=some s->lk s (mh κ env)=some (.bool v)->Region.wanted o (yielded ops a.tmps)=(v==b):=fun s v hj hl=>by
    simp[Region.wanted,hgd,uQ hj hl ha]
   have yu:∀s,(ops[j]?).bind (·.dst)=some s->lk s (mh κ env)=some undef->Region.wanted o (yielded ops a.tmps)=false:=fun s hj hl=>by
    have:yielded ops a.tmps j=none:=by
     unfold yielded;rw[hj];simp[ha.get s _ hl,undef]
    simp[Region.wanted,hgd,this]
   refine⟨fun pa g h=>?_,fun h=>?_⟩
   .simp only[nC]at h;split at h
    .rename_i s hs;split at h
     .rename_i b' hkn;split at h
      .rename_i g0 v hl;split at h
       .rename_i hbb;simp only[Option.some.injEq,Prod.mk.injEq]at h;obtain⟨rfl,rfl⟩:=h;have hv:=hk s b' hkn v g0 hl;have hls:=kN (κ:=κ) hl;have hg0:g0=true:=hw s _ hl;subst hg0;simp only[rZ,SV.den,Cell.den]at hls;rw[yb s v hs hls,hv,AJ hbb];cases b'<;>rfl
       .cases h
      .cases h
      .cases h
     .split at h
      .cases h
      .cases hp:rR ops env (some (j,b))with
       | none=>simp[hp]at h
       | some q=>
         simp only[hp,Option.map_some,Option.some.injEq]at h;subst h;have hf:=wU hp;simp only[rR,hs]at hp;split at hp
         .rename_i pa' g' v hl;simp only[Option.some.injEq,Prod.mk.injEq]at hp;obtain⟨rfl,hg⟩:=hp;have hls:=kN (κ:=κ) hl;cases hg':g' with
          | false=>
            subst hg';simp only[rZ]at hls;rw[yu s hs hls,<-hg];have hwf:=hw s _ hl;cases pa' with
            | nil=>cases hwf
            | cons q p=>rfl
          | true=>
            subst hg';simp only[rZ,SV.den,Cell.den]at hls;rw[yb s v hs hls,<-hg];cases pa'<;>cases b<;>cases v<;>rfl
         .cases hp
    .cases h
   .simp only[nC]at h;split at h
    .rename_i s hs;split at h
     .rename_i b' hkn;split at h
      .rename_i g0 v hl;split at h
       .cases h
       .rename_i hbb;have hv:=hk s b' hkn v g0 hl;have hls:=kN (κ:=κ) hl;have hg0:g0=true:=hw s _ hl;subst hg0;simp only[rZ,SV.den,Cell.den]at hls;rw[yb s v hs hls,hv];cases b<;>cases b'<;>first|rfl|cases hbb
      .rename_i g0 hl;have hls:=kN (κ:=κ) hl;have hg0:g0=true:=hw s _ hl;subst hg0;exact yu s hs hls
      .cases h
     .split at h
      .rename_i g0 hl;have hls:=kN (κ:=κ) hl;have hg0:g0=true:=hw s _ hl;subst hg0;exact yu s hs hls
      .cases hp:rR ops env (some (j,b))<;>simp[hp]at h
    .cases h
theorem pq{ks env i d op t ps af gd e}(hw:WF env)(hk:KnC kn env)(hsel:Region.noSelect ops=true)(hi:ops[i]?=some ⟨some d,op,t,ps,af,gd⟩)(hfr:((Region.free .any ops bs.toArray i&&(Region.ready .any ops bs.toArray).contains i)&&ks.2.2.all (fun j=>!Nat.beq j i))=true)(hN:Nat.blt d N=true)(hS:AQ ks bg κ1 bs.toArray w)
 (hr:(nC kn ops env gd=some none/\rZ κ e=undef)\/(nC kn ops env gd=some (some (e.pa,e.g))/\(e.g=true->∀w,zJ (Ub bg ks.2.2 ops bs i) κ1 w->dQ P N (mh κ env) ⟨some d,op,t,ps,af,gd⟩ w (e.x.den κ))))
 (h:WA P fx.px ops Kn (AQ ks bg κ1) fuel (bs.set i true) N (mh κ ((d,e)::env)) w):WA P fx.px ops Kn (AQ ks bg κ1) (fuel+1) bs N (mh κ env) w:=by
 simp only[Bool.and_eq_true]at hfr;obtain⟨⟨hf1,hf2⟩,hf3⟩:=hfr;have hy:∀a,Holds N (mh κ env) a->YieldsIf P ops (fun w=>zJ (Ub bg ks.2.2 ops bs i) κ1 w) ⟨some d,op,t,ps,af,gd⟩ (rZ κ e) a:=fun a ha=>by
  have hwt:=WB (κ:=κ) (ops:=ops) hw hk (o:=⟨some d,op,t,ps,af,gd⟩) ha;rcases hr with⟨h1,h2⟩|⟨h1,h2⟩
  .exact .inr ⟨hwt.2 h1,h2⟩
  .have h3:=hwt.1 _ _ h1;cases hg:e.g with
   | true=>
     refine .inl ⟨h3.trans hg,fun w hS=>?_⟩;simp only[rZ,hg];exact h2 hg w hS a ha
   | false=>
     refine .inr ⟨h3.trans hg,?_⟩;simp only[rZ,hg]
 cases hq : !MW ks.2.2 bs&&o9 ops ks.2.2 i with
 | true=>
   have hq2:=hq;simp only[Bool.and_eq_true,Bool.not_eq_true']at hq2;refine WA.GD (v:=rZ κ e) (brk:=ks.2.2) hi rfl hsel hf1 hf2 hq2.2 hq2.1 (fun b w hb hS=>?_) (AQ.less hf3) hy (hS.Ju rfl) hN rfl h;show zJ (Ub bg ks.2.2 ops bs i) κ1 w;unfold Ub;rw[hq];exact hS.2 hb
 | false=>
   refine WA.GD (v:=rZ κ e) (brk:=[]) hi rfl hsel hf1 hf2 rfl rfl (fun b w hb hS=>?_) (AQ.less hf3) hy (hS.Ju rfl) hN rfl h;show zJ (Ub bg ks.2.2 ops bs i) κ1 w;unfold Ub;rw[hq];exact hS.1
theorem pz(bZ:eu P tt){ks}(D:DK ks bg κ1)(hsel:Region.noSelect ops=true){κx n}:∀is evs bs env bs1 nD p fuel,takeD N tt kn ks.2.2 bg n ops is evs bs env=some (bs1,nD,p,p)->WF env->Zq n env->KnC kn env->
 (WF nD->Zq n nD->WA P fx.px ops Kn (AQ ks bg κ1) fuel bs1 N (mh (κ1++κx) nD) w)->AQ ks bg κ1 bs.toArray w->WA P fx.px ops Kn (AQ ks bg κ1) (fuel+is.length) bs N (mh (κ1++κx) env) w
 | [],evs,bs,env,bs1,nD,p,fuel,h,hw,hs,hkc,hk,S=>by
   simp only[takeD,Option.some.injEq,Prod.mk.injEq]at h;obtain⟨rfl,rfl,_⟩:=h;exact hk hw hs
 | i::is,evs,bs,env,bs1,nD,p,fuel,h,hw,hs,hkc,hk,S=>by
   have hK:∀w,zJ (Ub bg ks.2.2 ops bs i) κ1 w->zJ (Ub bg ks.2.2 ops bs i) (κ1++κx) w:=fun w h=>by
    unfold Ub at h |-;split at h
    .exact h.ext D.sc2
    .exact h.ext D.sc
   rw[List.length_cons,<-Nat.add_assoc];unfold takeD at h;split at h
   case h_2=>cases h
   rename_i d op t ps af gd hi hfr;split at h
   .cases h
   .rename_i hg;split at h
    .rename_i hc;simp only[Bool.and_eq_true]at hc;exact pq hw hkc hsel hi hfr hc.2.1 S (.inl ⟨hg,rfl⟩) (pz bZ D hsel is evs _ _ bs1 nD p fuel h (hw.push rfl hc.1) (hs.push rfl) (hkc.push hc.2.2) hk (S.Ju rfl))
    .cases h
   .rename_i pa g hg;have hf:=Qv hg;split at h
    .cases h
    .rename_i hc;simp only[Bool.and_eq_true]at hc;obtain⟨hfr2,hN,hnk⟩:=hc;split at h
     .rename_i c x y;split at h
      .rename_i s;split at h
       .rename_i b hkb;split at h
        .rename_i g0 v0 v hl hv;split at h
         .rename_i hvl;refine pq hw hkc hsel hi hfr hN S (.inr ⟨hg,fun hgt w hS=>?_⟩) (pz bZ D hsel is evs _ _ bs1 nD p fuel h (hw.push hf hfr2) (hs.push hvl) (hkc.push hnk) hk (S.Ju rfl));have hv0:=hkc s b hkb v0 g0 hl;have hls:=kN (κ:=κ1++κx) hl;have hg0:g0=true:=hw s _ hl;subst hg0;simp only[rZ,SV.den,Cell.den]at hls;have hev:=tu (κ:=κ1++κx) hw hf hgt hf hgt _ _ hv;cases b with
          | true=>exact yj hls hv0 hev
          | false=>exact yt hls hv0 hev
         .cases h
        .cases h
       .split at h
        .rename_i v hcx;split at h
         .rename_i ec hec;split at h
          .rename_i z hz;have hzl:z.lt n=true:=by
            unfold Fy at hz;split at hz
            .split at hz<;>(injection hz with hz;subst hz;rfl)
            .cases hz
           exact pq hw hkc hsel hi hfr hN S (.inr ⟨hg,fun hgt w hS=>Nw hw hf hgt hcx hec hz⟩) (pz bZ D hsel is evs _ _ bs1 nD p fuel h (hw.push hf hfr2) (hs.push hzl) (hkc.push hnk) hk (S.Ju rfl))
          .cases h
         .cases h
        .cases h
      .cases h
     .split at h
      .rename_i v hv;split at h
       .rename_i hvl;exact pq hw hkc hsel hi hfr hN S (.inr ⟨hg,fun hgt w hS=>GI bZ (hK w hS) (tu hw hf hgt hf hgt) hv⟩) (pz bZ D hsel is evs _ _ bs1 nD p fuel h (hw.push hf hfr2) (hs.push hvl) (hkc.push hnk) hk (S.Ju rfl))
       .cases h
      .split at h
       .rename_i e Ii _;have hgt:g=true:=hf;subst hgt;split at h
        .rename_i v a b hv;split at h
         .rename_i hvl;cases hr:takeD N tt kn ks.2.2 bg n ops is Ii (bs.set i true) ((d,⟨[],true,v⟩)::env)with
          | none=>simp[hr]at h
          | some q=>
            obtain⟨e1,i1,q1,q2⟩:=q;simp only[hr,Option.map_some,Option.some.injEq,Prod.mk.injEq]at h;obtain⟨rfl,rfl,h1,h2⟩:=h;rw[<-h1]at h2;obtain⟨h3,h4⟩:=tQ h2 (Nh hv).symm;subst h3;subst h4;exact pq hw hkc hsel hi hfr hN S (.inr ⟨hg,fun hgt w hS=>LD bZ (hK w hS) (tu hw (pa:=[]) (pb:=[]) rfl rfl rfl rfl) hv⟩) (pz bZ D hsel is Ii _ _ _ _ _ fuel hr (hw.push hf hfr2) (hs.push hvl) (hkc.push hnk) hk (S.Ju rfl))
         .cases h
        .cases h
       .cases h
theorem SD.tk5{ks}(bZ:eu P tt)(D:DK ks bg κ1)kn(hkn:V9 kn env)is evs q bs' env'{fuel'}(hf:fuel=fuel'+is.length)(hsel:Region.noSelect ops=true)(hK:Mi ks bs its=LH ks bg bs)
 (h:Jg N tt kn ks.2.2 bg its.length ops is evs bs env (env'.map (·.1))=some (bs',env',q,q)) (hk:SD P ops Kn ks bg κ1 fuel' bs' N n0 fx env' its):SD P ops Kn ks bg κ1 fuel bs N n0 fx env its:=fun κx w S=>by
 unfold Jg at h;cases hr:takeD N tt kn ks.2.2 bg its.length ops is evs bs (toC env)with
 | none=>simp[hr]at h
 | some z=>
   obtain⟨e1,i1,q1,q2⟩:=z;cases ho:Cw i1 (env'.map (·.1))with
   | none=>simp[hr,ho]at h
   | some e2=>
     simp only[hr,ho,Option.bind_some,Option.map_some,Option.some.injEq,Prod.mk.injEq]at h;obtain⟨rfl,rfl,rfl,rfl⟩:=h;rw[<-KM,hf];refine pz bZ D hsel is evs bs (toC env) _ _ _ _ hr (V8 env) (fun t e he=>?_) (fun s b hs v g hl=>hkn s b hs v (wS hl).1) (fun hw hs=>?_) (S.Mq hK D)
     .have h1:=S.sj;unfold yh at h1;rw[List.all_eq_true]at h1;exact h1 _ (wR (wS he).1)
     .intro a ha;exact hk κx w (S.env (Hr hs _ ho)) a (ha.sub (Cv hw _ ho))
end
end V
end Go.Proofs.YtbgfhaahhdnogaaGreat
