/- Whole statements without a choice, computed on descriptions; -/
import Derived.Test.YtbgfhaahhdnogaaGreatSim
namespace Go.Proofs.YtbgfhaahhdnogaaGreat
namespace V
structure Wh where
 pa:List (Nat×Bool)
 g:Bool
 x:SV
abbrev iU:=List (Nat×Wh)
def vJ(t:Nat):iU->Option Wh
 | []=>none
 | (d,v)::l=>match Nat.beq t d with
  | true=>some v
  | false=>vJ t l
def rZ(κ:List Conc)(e:Wh):Value:=match e.g with
 | true=>e.x.den κ
 | false=>undef
def mh(κ:List Conc)(e:iU):Env:=e.map fun p=>(p.1,rZ κ p.2)
def EI:Bool->Bool->Bool
 | true,true=>true
 | false,false=>true
 | _,_=>false
def Vs:List (Nat×Bool)->List (Nat×Bool)->Bool
 | [],[]=>true
 | (s,b)::p,(s',b')::p'=>Nat.beq s s'&&(EI b b'&&Vs p p')
 | _,_=>false
def tail?(q:List (Nat×Bool)):List (Nat×Bool)->Bool
 | []=>Vs q []
 | x::p=>Vs q (x::p)||tail? q p
def Ay(env:iU)(pa pb:List (Nat×Bool)):Operand->Option SV
 | .tmp t=>match vJ t env with
   | some e=>(match tail? e.pa pa||tail? e.pa pb with
     | true=>some e.x
     | false=>none)
   | none=>none
 | o=>jN [] o
def yL(b v:Bool):Bool:=match b with
 | true=>v
 | false=>!v
def rR(ops:Array Oper)(env:iU):Option (Nat×Bool)->Option (List (Nat×Bool)×Bool)
 | none=>some ([],true)
 | some (j,b)=>match (ops[j]?).bind (·.dst)with
   | some s=>(match vJ s env with
     | some ⟨pa,g,.c (.v (.bool v))⟩=>some ((s,b)::pa,(match pa with
       | []=>yL b v
       | _=>g&&yL b v))
     | _=>none)
   | none=>none
def Fy(x y:Operand)(v:Bool):Option SV->Option SV->Option SV
 | some (.c (.v (.bool bx))),some (.c (.v (.bool by')))=>match x,y with
   | _,.const (.bool false)=>some (vb (v&&bx))
   | .const (.bool true),_=>some (vb (v||by'))
   | _,_=>some (vb (match v with | true=>bx | false=>by'))
 | _,_=>none
def free?(d:Nat)(env:iU)(pa:List (Nat×Bool)):Bool:=env.all (fun p=>p.2.pa.all fun q=>!Nat.beq q.1 d)&&pa.all fun q=>!Nat.beq q.1 d
def evi(op:BinOp)(k:IntKind)(m n:Int):Option Int:=match op with
 | .quo=>acr k m n
 | .rem=>acp m n
 | .shl=>Kh k m n
 | .shr=>Kg k m n
 | _=>none
inductive Le where
 | bin (op:BinOp) (k:IntKind) (m n e:Int) (h:evi op k m n=some e)
 | ix (l:List Int) (i x:Int) (h:idx l i=some x)
 | el (j:Nat)
def Vt:BinOp->BinOp->Bool
 | .quo,.quo=>true
 | .rem,.rem=>true
 | .shl,.shl=>true
 | .shr,.shr=>true
 | _,_=>false
def Ib:List Cell->Option (IntKind×List Int)
 | [.v (.int k x)]=>some (k,[x])
 | .v (.int k x)::r=>match Ib r with
   | some (k',xs)=>(match keq k k' with
     | true=>some (k,x::xs)
     | false=>none)
   | none=>none
 | _=>none
def svE(tt:TT)(its:List Item)(E:Operand->Option SV):Op->Le->Option (SV×List Int×List Int)
 | .binOp op _ x y _,.bin op' k m n e _=>match E x,E y with
   | some (.c (.v (.int k1 m'))),some (.c (.v (.int k2 n')))=>(match keq k k1&&(Vt op op'&&(keq k k2||(Vt op .shl||Vt op .shr)))with
     | true=>some (vi k e,[m',n'],[m,n])
     | false=>none)
   | _,_=>none
 | .index s x i,.ix l iv e _=>match E x,E i,jU s tt with
   | some (.g cs),some (.c (.v (.int _ iv'))),some ⟨.array n el,_,_,_,_⟩=>(match Ib cs,jU el tt with
     | some (k,l'),some ⟨_,false,1,_,_⟩=>(match Nat.beq cs.length n&&Nat.beq l.length l'.length with
       | true=>some (vi k e,iv'::l',iv::l)
       | false=>none)
     | _,_=>none)
   | _,_,_=>none
 | .indexAddr s x i,.el j=>match E x,E i,jU s tt,its[j]? with
   | some (.c (.s a)),some (.c (.v (.int _ iv))),some ⟨.slice el,_,_,_,_⟩,some (.elt (some (a',iv')) _ cs)=>(match jU el tt with
     | some ti=>(match Nat.beq a a'&&Nat.beq cs.length ti.size with
       | true=>some (vp j 0,[iv],[iv'])
       | false=>none)
     | none=>none)
   | _,_,_,_=>none
 | _,_=>none
def Item.kill:Item->Item
 | .elt _ true _=>.e
 | it=>it
def kl(its:List Item):List Item:=match its.any Item.ow with
 | true=>its.map Item.kill
 | false=>its
def lF(its:List Item)(i:Nat)(T:TypeId)(cs:List Cell):List Item:=its.set i (.k T cs)
def stR(tt:TT)(its:List Item)(E:Operand->Option SV):Op->Option (Nat×TypeId×List Cell)
 | .store ty x y=>match E x,E y,jU ty tt with
   | some (.c (.p i o)),some v,some ti=>(match its[i]?,v.cells its with
     | some (.k T cs),some vs=>(match Nat.beq vs.length ti.size&&(vs.all (Qb its)&&(vs.all (Cell.lt its.length)&&Nat.ble (o+vs.length) cs.length))with
       | true=>some (i,T,cs.take o++vs++cs.drop (o+vs.length))
       | false=>none)
     | _,_=>none)
   | _,_,_=>none
 | _=>none
def yc(N:Nat)(tt:TT)(ld:Nat->Bool)(ops:Array Oper):List Oper->List Le->iU->List Item->Option (iU×List Item×List Int×List Int)
 | [],_,env,its=>some (env,its,[],[])
 | ⟨some d,op,_,_,_,gd⟩::r,evs,env,its=>match rR ops env gd with
   | none=>none
   | some (pa,g)=>match free? d env pa&&Nat.blt d N with
     | false=>none
     | true=>match op with
       | .pick c x y=>(match c,Ay env pa pa c with
         | .tmp s,some (.c (.v (.bool v)))=>(match vJ s env with
           | some ec=>(match Fy x y v (Ay env pa ((s,true)::ec.pa) x) (Ay env pa ((s,false)::ec.pa) y)with
             | some z=>yc N tt ld ops r evs ((d,⟨pa,g,z⟩)::env) its
             | none=>none)
           | none=>none)
         | _,_=>none)
       | op=>match uR tt ld its (Ay env pa pa) op with
         | some v=>(match v.lt its.length with
           | true=>yc N tt ld ops r evs ((d,⟨pa,g,v⟩)::env) its
           | false=>none)
         | none=>match evs,pa with
           | ev::Ii,[]=>(match svE tt its (Ay env [] []) op ev with
             | some (v,a,b)=>(match v.lt its.length with
               | true=>(yc N tt ld ops r Ii ((d,⟨[],true,v⟩)::env) its).map fun q=>(q.1,q.2.1,a++q.2.2.1,b++q.2.2.2)
               | false=>none)
             | none=>none)
           | _,_=>none
 | ⟨none,op,_,_,_,none⟩::r,evs,env,its=>match stR tt (kl its) (Ay env [] []) op with
   | some (i,T,cs)=>yc N tt ld ops r evs env (lF (kl its) i T cs)
   | none=>match uR tt ld its (Ay env [] []) op with
     | some _=>yc N tt ld ops r evs env its
     | none=>none
 | _,_,_,_=>none
def toC(e:bP):iU:=e.map fun p=>(p.1,⟨[],true,p.2⟩)
def Cw(env:iU):List Nat->Option bP
 | []=>some []
 | t::ts=>match vJ t env with
   | some ⟨[],_,x⟩=>(match Cw env ts with
     | some e=>some ((t,x)::e)
     | none=>none)
   | _=>none
def DY(N:Nat)(tt:TT)(ld:Nat->Bool)(ops:Array Oper)(r:List Oper)(evs:List Le)(env:bP)(its:List Item)(ts:List Nat):Option (bP×List Item×List Int×List Int):=
 (yc N tt ld ops r evs (toC env) its).bind fun q=>(Cw q.1 ts).map fun e=>(e,q.2)
def WF(env:iU):Prop:=∀t e,vJ t env=some e->match e.pa with
 | []=>e.g=true
 | (s,b)::p=>∃g' v,vJ s env=some ⟨p,g',vb v⟩/\e.g=(match p with
  | []=>yL b v
  | _=>g'&&yL b v)
def Zq(n:Nat)(env:iU):Prop:=∀t e,vJ t env=some e->e.x.lt n=true
theorem AJ:∀{a b},EI a b=true->a=b:=by intro a b h;cases a<;>cases b<;>first|rfl|cases h
theorem Iz:∀{p q},Vs p q=true->p=q
 | [],[],_=>rfl
 | (s,b)::p,(s',b')::p',h=>by
  simp only[Vs,Bool.and_eq_true]at h;rw[Nat.eq_of_beq_eq_true h.1,AJ h.2.1,Iz h.2.2]
def Fits(env:iU)(pa:List (Nat×Bool))(g:Bool):Prop:=match pa with
 | []=>g=true
 | (s,b)::p=>∃g' v,vJ s env=some ⟨p,g',vb v⟩/\g=(match p with
  | []=>yL b v
  | _=>g'&&yL b v)
theorem Fits.step{env}(hw:WF env){s b p g}(h:Fits env ((s,b)::p) g)(hg:g=true):∃v,vJ s env=some ⟨p,true,vb v⟩/\yL b v=true:=by
 obtain⟨g',v,h1,h2⟩:=h;have:=hw s _ h1;cases p with
 | nil=>
   simp only at this;subst this;exact⟨v,h1,by simpa [hg]using h2.symm⟩
 | cons q p=>
   simp only[hg]at h2;have h3:g'=true/\yL b v=true:=by simpa using h2.symm
   rw[h3.1]at h1;exact⟨v,h1,h3.2⟩
theorem Fits.tail{env}(hw:WF env){q}:∀{pa} {g},Fits env pa g->g=true->tail? q pa=true->Fits env q true
 | [],g,h,hg,ht=>by
   have:=Iz ht;subst this;exact rfl
 | (s,b)::p,g,h,hg,ht=>by
  simp only[tail?,Bool.or_eq_true]at ht;rcases ht with ht|ht
  .have:=Iz ht;subst this;subst hg;exact h
  .obtain⟨v,h1,h2⟩:=h.step hw hg;exact Fits.tail hw (hw s _ h1) rfl ht
theorem Fits.det{env pa g g'}(h:Fits env pa g)(h':Fits env pa g'):g=g':=by
 cases pa with
 | nil=>exact h.trans h'.symm
 | cons q p=>
   obtain⟨g1,v1,h1,h2⟩:=h;obtain⟨g2,v2,h3,h4⟩:=h';rw[h1]at h3;injection h3 with h3;injection h3 with _ h3 h5;subst h3;have:v1=v2:=by injection h5 with h5;injection h5 with h5;injection h5
   subst this;exact h2.trans h4.symm
theorem kN{κ t x}:∀{e},vJ t e=some x->lk t (mh κ e)=some (rZ κ x)
 | (d,v)::l,h=>by
  simp only[vJ]at h;simp only[mh,List.map_cons,lk];cases hb:Nat.beq t d with
  | true=>rw[hb]at h;simp only[Option.some.injEq]at h;simp[h]
  | false=>rw[hb]at h;exact kN (e:=l) h
section
variable {P:Program} {N n0:Nat} {fx:Fx} {its aR:List Item} {κ:List Conc} {w:World} {tt:TT} {ld:Nat->Bool} {ops:Array Oper} {Kn:Act->World->Prop}
theorem tu{env}(hw:WF env){pa pb ga gb}(ha:Fits env pa ga)(hga:ga=true)(hb:Fits env pb gb)(hgb:gb=true):∀x v,Ay env pa pb x=some v->ev (mh κ env) x=some (v.den κ):=by
 intro x v h;cases x with
 | tmp t=>
   simp only[Ay]at h;split at h
   .rename_i e he;split at h
    .rename_i ht;injection h with h;subst h;have hf:Fits env e.pa true:=by
      rcases Bool.or_eq_true_iff.1 ht with ht|ht
      .exact ha.tail hw hga ht
      .exact hb.tail hw hgb ht
     have hg:e.g=true:=Fits.det (hw t e he) hf;simp only[ev,kN he,rZ,hg]
    .cases h
   .cases h
 | const c=>
   have:=eD (κ:=κ) (e:=[]) (x:=.const c) h;cases c<;>exact this
 | global g=>cases h
 | func f=>exact eD (κ:=κ) (e:=[]) (x:=.func f) h
theorem J5{s d:Nat}{e}{env:iU}(h:Nat.beq s d=false):vJ s ((d,e)::env)=vJ s env:=by simp only[vJ,h]
theorem Yp{d env pa}(h:free? d env pa=true):(∀t e,vJ t env=some e->∀s b p,e.pa=(s,b)::p->Nat.beq s d=false)/\∀s b p,pa=(s,b)::p->Nat.beq s d=false:=by
 simp only[free?,Bool.and_eq_true]at h;obtain⟨h1,h2⟩:=h;rw[List.all_eq_true]at h1;refine⟨fun t e he s b p hp=>?_,fun s b p hp=>?_⟩
 .have hm:∀{env:iU},vJ t env=some e->(t,e)∈env:=by
   intro env
   induction env with
   | nil=>intro h;cases h
   | cons q l ih=>
     obtain⟨d,v⟩:=q;intro h;simp only[vJ]at h;cases hb:Nat.beq t d with
     | true=>
       rw[hb]at h;simp only[Option.some.injEq]at h;rw[Nat.eq_of_beq_eq_true hb,h];exact List.mem_cons_self ..
     | false=>rw[hb]at h;exact List.mem_cons_of_mem _ (ih h)
  have:=h1 _ (hm he);rw[hp]at this;simp only[List.all_cons,Bool.and_eq_true,Bool.not_eq_true']at this;exact this.1
 .rw[hp]at h2;simp only[List.all_cons,Bool.and_eq_true,Bool.not_eq_true']at h2;exact h2.1
theorem Fits.push{env pa g}{d:Nat}{e}(h:Fits env pa g)(hd:∀s b p,pa=(s,b)::p->Nat.beq s d=false):Fits ((d,e)::env) pa g:=by
 cases pa with
 | nil=>exact h
 | cons q p=>
   obtain⟨s,b⟩:=q;obtain⟨g',v,h1,h2⟩:=h;exact⟨g',v,by rw[J5 (hd s b p rfl)];exact h1,h2⟩
theorem WF.push{env}(hw:WF env){d pa g x}(hf:Fits env pa g)(hd:free? d env pa=true):WF ((d,⟨pa,g,x⟩)::env):=by
 obtain⟨h1,h2⟩:=Yp hd;intro t e he;simp only[vJ]at he;cases hb:Nat.beq t d with
 | true=>
   rw[hb]at he;simp only[Option.some.injEq]at he;subst he;exact Fits.push hf h2
 | false=>
   rw[hb]at he;exact Fits.push (hw t e he) (h1 t e he)
theorem Zq.push{env n}(hs:Zq n env){d e}(he:e.x.lt n=true):Zq n ((d,e)::env):=by
 intro t e' h;simp only[vJ]at h;cases hb:Nat.beq t d with
 | true=>rw[hb]at h;simp only[Option.some.injEq]at h;subst h;exact he
 | false=>rw[hb]at h;exact hs t e' h
theorem wU{env gd pa g}(h:rR ops env gd=some (pa,g)):Fits env pa g:=by
 cases gd with
 | none=>
   simp only[rR,Option.some.injEq,Prod.mk.injEq]at h;obtain⟨rfl,rfl⟩:=h;exact rfl
 | some q=>
   obtain⟨j,b⟩:=q;simp only[rR]at h;split at h
   .split at h
    .rename_i s hs pa' g' v hl;simp only[Option.some.injEq,Prod.mk.injEq]at h;obtain⟨rfl,rfl⟩:=h;exact⟨g',v,hl,rfl⟩
    .cases h
   .cases h
theorem BN{env rest d op t ps af gd pa g x}(hw:WF env)(hp:rR ops env gd=some (pa,g))(hN:Nat.blt d N=true)
 (hr:g=true->dQ P N (mh κ env) ⟨some d,op,t,ps,af,none⟩ w (x.den κ)) (h:WL P fx.px ops rest Kn N (mh κ ((d,⟨pa,g,x⟩)::env)) w):WL P fx.px ops (⟨some d,op,t,ps,af,gd⟩::rest) Kn N (mh κ env) w:=by
 cases gd with
 | none=>
   simp only[rR,Option.some.injEq,Prod.mk.injEq]at hp;obtain⟨rfl,rfl⟩:=hp;exact WL.val (hr rfl) hN h
 | some q=>
   obtain⟨j,b⟩:=q;have hf:=wU hp;simp only[rR]at hp;split at hp
   .rename_i s hs;split at hp
    .rename_i pa' g' v hl;simp only[Option.some.injEq,Prod.mk.injEq]at hp;obtain⟨rfl,hg⟩:=hp;have hls:=kN (κ:=κ) hl;have hwf:=hw s _ hl;cases hgg:g with
     | true=>
       obtain⟨v',h1,h2⟩:=hf.step hw hgg;rw[hl]at h1;injection h1 with h1;injection h1 with _ h3 h4;subst h3;have hvv:v=v':=by injection h4 with h4;injection h4 with h4;injection h4
       subst hvv;simp only[rZ,SV.den,Cell.den]at hls;have hx:v=b:=by cases b<;>cases v<;>simp_all [yL]
       refine WL.yes hs hls hx (WL.val (hr hgg) hN ?_);rw[hgg]at h;exact h
     | false=>
       rw[hgg]at h;have hun:mh κ ((d,⟨(s,b)::pa',false,x⟩)::env)=(d,undef)::mh κ env:=rfl;rw[hun]at h;cases hg':g' with
       | true=>
         subst hg';simp only[rZ,SV.den,Cell.den]at hls;have hx:v = !b:=by
          rw[hgg]at hg;cases pa'<;>cases b<;>cases v<;>simp_all [yL]
         exact WL.no hs hls hx hN h
       | false=>
         subst hg';simp only[rZ]at hls;exact WL.Ws hs hls hN h
    .cases hp
   .cases hp
end
section
variable {P:Program} {N n0:Nat} {fx:Fx} {its aR:List Item} {κ:List Conc} {w:World} {tt:TT} {ld:Nat->Bool} {ops:Array Oper} {Kn:Act->World->Prop}
variable {d:Option Nat} {t:TypeId} {ps:String} {af:Array Edge} {gd:Option (Nat×Bool)} {E:Operand->Option SV} {l:Env}
theorem Nw{env}(hw:WF env){pa g v}{s:Nat}{x y ec z}(hf:Fits env pa g)(hg:g=true)(hc:Ay env pa pa (.tmp s)=some (.c (.v (.bool v))))(hs:vJ s env=some ec)
 (h:Fy x y v (Ay env pa ((s,true)::ec.pa) x) (Ay env pa ((s,false)::ec.pa) y)=some z):dQ P N (mh κ env) ⟨d,.pick (.tmp s) x y,t,ps,af,gd⟩ w (z.den κ):=by
 have hc0:ec.x=vb v/\tail? ec.pa pa=true:=by
  simp only[Ay,hs]at hc;split at hc
  .rename_i ht;injection hc with hc;exact⟨hc,by simpa using ht⟩
  .cases hc
 obtain⟨hx0,htl⟩:=hc0;have hec:Fits env ec.pa true:=hf.tail hw hg htl;have hgc:ec.g=true:=Fits.det (hw s _ hs) hec;have hce:vJ s env=some ⟨ec.pa,true,vb v⟩:=by rw[hs,<-hx0,<-hgc]
 have hsl:=kN (κ:=κ) hce;simp only[rZ,SV.den,Cell.den]at hsl;have way:∀b,yL b v=true->Fits env ((s,b)::ec.pa) true:=fun b hb=>⟨true,v,hce,by cases ec.pa<;>simp[hb]⟩
 have out:∀q,(v=true->(∃u,Ay env pa ((s,true)::ec.pa) x=some u/\u.den κ=q))->(v=false->(∃u,Ay env pa ((s,false)::ec.pa) y=some u/\u.den κ=q))->dQ P N (mh κ env) ⟨d,.pick (.tmp s) x y,t,ps,af,gd⟩ w q:=by
  intro q h1 h2;cases hv:v with
  | true=>
    obtain⟨u,hu,rfl⟩:=h1 hv;exact yj hsl hv (tu hw hf hg (way true (by simp[yL,hv])) rfl _ _ hu)
  | false=>
    obtain⟨u,hu,rfl⟩:=h2 hv;exact yt hsl hv (tu hw hf hg (way false (by simp[yL,hv])) rfl _ _ hu)
 unfold Fy at h;split at h
 .rename_i bx by' hbx hby;split at h
  .injection h with h;subst h;refine out _ (fun hv=>⟨_,hbx,by simp[SV.den,Cell.den,hv]⟩) (fun hv=>⟨_,hby,?_⟩);simp only[Ay,jN,Option.some.injEq]at hby;injection hby with hby;injection hby with hby;injection hby with hby;simp[SV.den,Cell.den,hv,<-hby]
  .injection h with h;subst h;refine out _ (fun hv=>⟨_,hbx,?_⟩) (fun hv=>⟨_,hby,by simp[SV.den,Cell.den,hv]⟩);simp only[Ay,jN,Option.some.injEq]at hbx;injection hbx with hbx;injection hbx with hbx;injection hbx with hbx;simp[SV.den,Cell.den,hv,<-hbx]
  .injection h with h;subst h;exact out _ (fun hv=>⟨_,hbx,by subst hv;rfl⟩) (fun hv=>⟨_,hby,by subst hv;rfl⟩)
 .cases h
theorem yK:∀cs {k} {xs},Ib cs=some (k,xs)->cs.map (Cell.den κ)=xs.map (Value.int k)
 | [],k,xs,h=>by cases h
 | c::r,k,xs,h=>by
   unfold Ib at h;split at h
   .rename_i k' x heq;injection heq with h1 h2;subst h1;subst h2;simp only[Option.some.injEq,Prod.mk.injEq]at h;obtain⟨rfl,rfl⟩:=h;rfl
   .rename_i k' x r' _ heq;injection heq with h1 h2;subst h1;subst h2;split at h
    .rename_i k2 xs2 hi;split at h
     .rename_i hk;have:=uZ hk;subst this;simp only[Option.some.injEq,Prod.mk.injEq]at h;obtain⟨rfl,rfl⟩:=h;simp only[List.map_cons,yK r hi,Cell.den]
     .cases h
    .cases h
   .cases h
theorem Nh{op e v a b}(h:svE tt its E op e=some (v,a,b)):a.length=b.length:=by
 unfold svE at h;split at h
 .split at h
  .split at h
   .simp only[Option.some.injEq,Prod.mk.injEq]at h;obtain⟨_,rfl,rfl⟩:=h;rfl
   .cases h
  .cases h
 .split at h
  .split at h
   .split at h
    .rename_i hb;simp only[Option.some.injEq,Prod.mk.injEq]at h;obtain⟨_,rfl,rfl⟩:=h;simp only[Bool.and_eq_true,Nat.beq_eq]at hb;simp[hb.2]
    .cases h
   .cases h
  .cases h
 .split at h
  .split at h
   .split at h
    .simp only[Option.some.injEq,Prod.mk.injEq]at h;obtain⟨_,rfl,rfl⟩:=h;rfl
    .cases h
   .cases h
  .cases h
 .cases h
theorem LD(bZ:eu P tt)(S:zJ its κ w)(hE:∀x v,E x=some v->ev l x=some (v.den κ)){op e v a}(h:svE tt its E op e=some (v,a,a)):dQ P N l ⟨d,op,t,ps,af,gd⟩ w (v.den κ):=by
 unfold svE at h;split at h
 .rename_i op ty0 x y mF op' k m n e he;split at h
  .rename_i k1 m' k2 n' hx hy;split at h
   .rename_i hb;simp only[Option.some.injEq,Prod.mk.injEq]at h;obtain⟨rfl,h1,h2⟩:=h;rw[<-h1]at h2;injection h2 with h2 h3;injection h3 with h3;subst h2;subst h3;simp only[Bool.and_eq_true,Bool.or_eq_true]at hb;obtain⟨hk,ho,hk2⟩:=hb;have hk':=uZ hk;subst hk';have hx':=hE _ _ hx;have hy':=hE _ _ hy;simp only[SV.den,Cell.den]at hx' hy' |-;have hqr:(op=.quo\/op=.rem)->k=k2:=by
     intro hq;rcases hk2 with h|h
     .exact uZ h
     .exfalso;rcases hq with rfl|rfl<;>rcases h with h|h<;>cases h
    cases op<;>cases op'<;>first|cases ho|skip
    .have:=hqr (.inl rfl);subst this;exact abh hx' hy' he
    .have:=hqr (.inr rfl);subst this;exact abg hx' hy' he
    .exact abf hx' hy' he
    .exact abe hx' hy' he
   .cases h
  .cases h
 .rename_i s x i l0 iv e he;split at h
  .rename_i cs k0 iv' n el _ _ _ _ hx hi hs;split at h
   .rename_i k l' z by' hc hel;split at h
    .rename_i hb;simp only[Option.some.injEq,Prod.mk.injEq]at h;obtain⟨rfl,h1,h2⟩:=h;rw[<-h1]at h2;injection h2 with h2 h3;subst h2;subst h3;simp only[Bool.and_eq_true,Nat.beq_eq]at hb;have hx':=hE _ _ hx;simp only[SV.den,yK cs hc]at hx';have hlen:l0.length=n:=by
      have:=congrArg List.length (yK (κ:=κ) cs hc);simp at this;omega
     exact Pj (bZ.get hs).und (bZ.get hel).agg (bZ.get hel).size hx' (hE _ _ hi) (by simpa using hlen) (Yj he)
    .cases h
   .cases h
  .cases h
 .rename_i s x i j;split at h
  .rename_i a0 k iv el _ _ _ _ a' iv' ow cs hx hi hs hj;split at h
   .rename_i ti hel;split at h
    .rename_i hb;simp only[Option.some.injEq,Prod.mk.injEq]at h;obtain⟨rfl,h1,h2⟩:=h;rw[<-h1]at h2;injection h2 with h2 h3;subst h2;simp only[Bool.and_eq_true,Nat.beq_eq]at hb;obtain⟨ha,hn⟩:=hb;subst ha;obtain⟨c,_,hc1,hc2⟩:=S _ _ hj;cases c with
     | a ad=>
       obtain⟨_,_,A0,n',c',hk,had,h0,h1'⟩:=hc2;have hx':=hE _ _ hx;have hi':=hE _ _ hi;simp only[SV.den,Cell.den,hk]at hx' hi' |-;rw[hc1];simp only[YZ];subst had;rw[hn];intro ac ha;simp only[execOp,ha.ev hx',ha.ev hi',Sem.run_bind,run_indexAt (bZ.get hs).und (bZ.get hel).size h0 h1',Result.andThen_ok];rfl
     | _=>exact hc2.elim
    .cases h
   .cases h
  .cases h
 .cases h
theorem Ye(it:Item):it.kill.ow=false:=by
 cases it with
 | elt s ow cs=>cases ow<;>rfl
 | _=>rfl
theorem uw its:(kl its).length=its.length:=by unfold kl;split<;>simp
theorem Mr{i:Nat}{it}(h:(kl its)[i]?=some it):∃Ms,its[i]?=some Ms/\it.ow=false/\(it=Ms\/it=.e):=by
 unfold kl at h;split at h
 .rw[List.getElem?_map]at h;cases h0:its[i]? with
  | none=>simp[h0]at h
  | some Ms=>
    simp only[h0,Option.map_some,Option.some.injEq]at h;subst h;refine⟨Ms,rfl,Ye Ms,?_⟩;cases Ms with
    | elt s ow cs=>cases ow<;>first|exact .inl rfl|exact .inr rfl
    | _=>exact .inl rfl
 .rename_i ha;refine⟨it,h,?_,.inl rfl⟩;have:∀x∈its,x.ow=false:=by
   intro x hx;cases hx':x.ow with
   | false=>rfl
   | true=>
     exfalso;have:its.any Item.ow=true:=List.any_eq_true.2 ⟨x,hx,hx'⟩;rw[this]at ha;cases ha
  exact this it (List.mem_of_getElem? h)
theorem M9 its κ:dL (kl its) κ=dL its κ:=by
 unfold kl;split
 .unfold dL;rw[List.zipWith_map_left];congr 1;funext it c;cases it with
  | elt s ow cs=>cases ow<;>cases c<;>rfl
  | _=>rfl
 .rfl
theorem St.kill{env}(S:St n0 fx env its κ w):St n0 fx env (kl its) κ w:=by
 refine⟨by rw[uw];exact S.len,S.pre,S.n0,by rw[uw];exact S.sj,?_,by rw[M9];exact S.ctx,fun i it c h1 h2=>?_⟩
 .rw[uw];unfold oP;rw[List.all_eq_true];intro it hit;obtain⟨i,hi⟩:=List.getElem?_of_mem hit;obtain⟨Ms,h0,_,h⟩:=Mr hi;have hs:=S.Fe;unfold oP at hs;rw[List.all_eq_true]at hs;rcases h with rfl|rfl
  .exact hs _ (List.mem_of_getElem? h0)
  .rfl
 .rw[M9];obtain⟨Ms,h0,_,h⟩:=Mr h1;rcases h with rfl|rfl
  .exact S.ok i _ c h0 h2
  .cases c<;>trivial
theorem St.lF{env:bP}(S:St n0 fx env its κ w)(how:∀it∈its,it.ow=false){i b:Nat}{T:TypeId}{cs cs':List Cell}{w':World}(hi:its[i]?=some (.k T cs))(hc:κ[i]?=some (.b b))(hl:cs'.all (Cell.lt its.length)=true)
 (h:Stored fx.U0 fx.X0 fx.w0 (dL its κ) w b T (cs'.map (Cell.den κ)) w'):St n0 fx env (lF its i T cs') κ w':=by
 obtain⟨hb,C,Tr⟩:=h;have hil:i<its.length:=(List.getElem?_eq_some_iff.1 hi).1;have hL:dL (V.lF its i T cs') κ=dL its κ:=by
  unfold V.lF;apply List.ext_getElem?;intro j;by_cases hj:j=i
  .subst hj;have h1:(its.set j (.k T cs'))[j]?=some (.k T cs'):=by rw[List.getElem?_set_self hil]
   rw[bU h1 hc,bU hi hc];rfl
  .unfold dL;rw[List.getElem?_zipWith,List.getElem?_zipWith,List.getElem?_set_ne (fun e=>hj e.symm)]
 have key:=S.next (env':=env) (aR:=V.lF its i T cs') (κx:=[]) (w':=w') (X:=[some b]) (fun j=>j=i) (by simp[V.lF,S.len]) (by simpa [V.lF]using S.sj)
  (by
    unfold V.lF oP;rw[List.length_set,List.all_eq_true];intro it hit;have hs:=S.Fe;unfold oP at hs;rw[List.all_eq_true]at hs;rcases List.mem_or_eq_of_mem_set hit with h|h
    .exact hs _ h
    .subst h;exact hl)
  (by rw[List.append_nil,hL];exact C) (by rw[List.append_nil,hL];exact Tr)
  (fun j it hj hne hit=>by
    unfold V.lF at hit;rw[List.getElem?_set_ne (fun e=>hne e.symm)]at hit;refine⟨hit,how _ (List.mem_of_getElem? hit),fun c b' hc' hb' hm=>?_⟩;rw[List.mem_singleton]at hm;injection hm with hm;subst hm;have h1:=bU hit hc';rw[hb']at h1;have h2:=bU hi hc;exact S.ctx.sep j i b' hne h1 h2)
  (fun j it c hj hit hc'=>by
    rw[List.append_nil]at hc';rcases hj with hj|rfl
    .have:=(List.getElem?_eq_some_iff.1 hit).1;simp only[V.lF,List.length_set]at this;omega
    .unfold V.lF at hit;rw[List.getElem?_set_self hil]at hit;injection hit with hit;subst hit;rw[hc]at hc';injection hc' with hc';subst hc';simpa [OK]using hb)
 rwa [List.append_nil]at key
theorem RP{env0}(bZ:eu P tt)(S:St n0 fx env0 its κ w)(how:∀it∈its,it.ow=false)(hE:∀x v,E x=some v->ev l x=some (v.den κ)){op i T cs}(h:stR tt its E op=some (i,T,cs)) :
 F9 P N l ⟨none,op,t,ps,af,gd⟩ w (fun w'=>St n0 fx env0 (lF its i T cs) κ w'):=by
 unfold stR at h;split at h
 .rename_i ty x y;split at h
  .rename_i i' o v ti hx hy ht;split at h
   .rename_i T' cs0 vs hi hv;split at h
    .rename_i hb;simp only[Option.some.injEq,Prod.mk.injEq]at h;obtain⟨rfl,rfl,rfl⟩:=h;simp only[Bool.and_eq_true,Nat.beq_eq,Nat.ble_eq]at hb;obtain⟨h1,h2,h3,h4⟩:=hb;obtain⟨c,hc1,hc2⟩:=S.iy hi;cases c with
     | b b=>
       have hx':=hE _ _ hx;simp only[SV.den,Cell.den,hc1]at hx';have hL:(dL its κ)[i']?=some (some b):=by have:=bU hi hc1;exact this
       have hrun:=JE (P:=P) (N:=N) (t:=t) (ps:=ps) (af:=af) (g:=gd) (bZ.get ht).size hx' (hE _ _ hy) (lK S.NZ hv) (by simpa using h1)
        (by
          rw[List.all_map,List.all_eq_true];intro c hc;rw[List.all_eq_true]at h2;exact Me S.NZ (h2 c hc)) hc2 hL S.ctx (by simp;omega) (cs':=(cs0.take o++vs++cs0.drop (o+vs.length)).map (Cell.den κ)) (by simp[List.map_append,List.map_take,List.map_drop])
       intro a ha;obtain⟨w',hr,hst⟩:=hrun a ha;refine⟨w',hr,S.lF how hi hc1 ?_ hst⟩;have hsc:cs0.all (Cell.lt its.length)=true:=by
        have hs:=S.Fe;unfold oP at hs;rw[List.all_eq_true]at hs;exact hs _ (List.mem_of_getElem? hi)
       rw[List.all_append,List.all_append,VF hsc,VG hsc,h3];rfl
     | _=>exact hc2.elim
    .cases h
   .cases h
  .cases h
 .cases h
end
section
variable {P:Program} {N n0:Nat} {fx:Fx} {its aR:List Item} {κ:List Conc} {w:World} {tt:TT} {ld:Nat->Bool} {ops:Array Oper} {Kn:Act->World->Prop}
theorem tQ{α:Type}{a b c d:List α}(h:a++c=b++d)(hl:a.length=b.length):a=b/\c=d:=List.append_inj h hl
theorem WL.aa3{rest l op t ps af K}(hr:F9 P N l ⟨none,op,t,ps,af,none⟩ w K)(h:∀w',K w'->WL P fx.px ops rest Kn N l w'):WL P fx.px ops (⟨none,op,t,ps,af,none⟩::rest) Kn N l w:=WL.aa4 hr h
theorem Z0:∀it∈kl its,it.ow=false:=fun it hit=>by
 obtain⟨i,hi⟩:=List.getElem?_of_mem hit;obtain⟨_,_,h,_⟩:=Mr hi;exact h
theorem St.env{env env'}(S:St n0 fx env its κ w)(h:yh its.length env'=true):St n0 fx env' its κ w:=⟨S.len,S.pre,S.n0,h,S.Fe,S.ctx,S.ok⟩
theorem LG{E op q}(_h:stR tt its E op=some q):(lF its q.1 q.2.1 q.2.2).length=its.length:=by simp[lF]
theorem uf(bZ:eu P tt)rest:∀r evs env its nD C9 p,yc N tt ld ops r evs env its=some (nD,C9,p,p)->WF env->Zq its.length env->
 (∀κ w,St n0 fx [] C9 κ w->WF nD->Zq C9.length nD->WL P fx.px ops rest Kn N (mh κ nD) w)->∀κ w,St n0 fx [] its κ w->WL P fx.px ops (r++rest) Kn N (mh κ env) w
 | [],evs,env,its,nD,C9,p,h,hw,hs,hk,κ,w,S=>by
   simp only[yc,Option.some.injEq,Prod.mk.injEq]at h;obtain⟨rfl,rfl,_⟩:=h;exact hk κ w S hw hs
 | ⟨some d,op,t,ps,af,gd⟩::r,evs,env,its,nD,C9,p,h,hw,hs,hk,κ,w,S=>by
   simp only[List.cons_append];unfold yc at h;split at h
   .cases h
   .rename_i pa g hp;split at h
    .cases h
    .rename_i hfr;simp only[Bool.and_eq_true]at hfr;obtain⟨hfr,hN⟩:=hfr;have hf:=wU hp;split at h
     .rename_i c x y;split at h
      .rename_i s v hcx;split at h
       .rename_i ec hec;split at h
        .rename_i z hz;have hzl:z.lt its.length=true:=by
          unfold Fy at hz;split at hz
          .split at hz<;>(injection hz with hz;subst hz;rfl)
          .cases hz
         exact BN hw hp hN (fun hg=>Nw hw hf hg hcx hec hz) (uf bZ rest r evs _ its nD C9 p h (hw.push hf hfr) (hs.push hzl) hk κ w S)
        .cases h
       .cases h
      .cases h
     .split at h
      .rename_i v hv;split at h
       .rename_i hvl;exact BN hw hp hN (fun hg=>GI bZ S.NZ (tu hw hf hg hf hg) hv) (uf bZ rest r evs _ its nD C9 p h (hw.push hf hfr) (hs.push hvl) hk κ w S)
       .cases h
      .split at h
       .rename_i e Ii _;have hg:g=true:=hf;subst hg;split at h
        .rename_i v a b hv;split at h
         .rename_i hvl;cases hr:yc N tt ld ops r Ii ((d,⟨[],true,v⟩)::env) its with
          | none=>simp[hr]at h
          | some q=>
            obtain⟨e1,i1,q1,q2⟩:=q;simp only[hr,Option.map_some,Option.some.injEq,Prod.mk.injEq]at h;obtain⟨rfl,rfl,h1,h2⟩:=h;rw[<-h1]at h2;obtain⟨h3,h4⟩:=tQ h2 (Nh hv).symm;subst h3;subst h4;exact BN hw hp hN (fun hg=>LD bZ S.NZ (tu hw (pa:=[]) (pb:=[]) rfl rfl rfl rfl) hv) (uf bZ rest r Ii _ its _ _ _ hr (hw.push hf hfr) (hs.push hvl) hk κ w S)
         .cases h
        .cases h
       .cases h
 | ⟨none,op,t,ps,af,none⟩::r,evs,env,its,nD,C9,p,h,hw,hs,hk,κ,w,S=>by
   simp only[List.cons_append];unfold yc at h;have hE:∀κ x v,Ay env [] [] x=some v->ev (mh κ env) x=some (v.den κ):=fun κ=>tu hw (pa:=[]) (pb:=[]) rfl rfl rfl rfl;split at h
   .rename_i i T cs hst;refine WL.aa3 (RP bZ S.kill Z0 (hE κ) hst) fun w' S'=>?_;have hl:=LG hst;simp only[uw]at hl;exact uf bZ rest r evs env _ nD C9 p h hw (by rw[hl];exact hs) hk κ w' S'
   .split at h
    .rename_i v hv;exact WL.val0 (GI bZ S.NZ (hE κ) hv) (uf bZ rest r evs env its nD C9 p h hw hs hk κ w S)
    .cases h
 | ⟨none,op,t,ps,af,some q⟩::r,evs,env,its,nD,C9,p,h,hw,hs,hk,κ,w,S=>by
   unfold yc at h;cases h
theorem wS{t}:∀{env} {e},vJ t (toC env)=some e->EA t env=some e.x/\e.pa=[]/\e.g=true
 | (d,v)::l,e,h=>by
  simp only[toC,List.map_cons,vJ]at h;simp only[EA];cases hb:Nat.beq t d with
  | true=>rw[hb]at h;simp only[Option.some.injEq]at h;subst h;exact⟨rfl,rfl,rfl⟩
  | false=>rw[hb]at h;exact wS (env:=l) h
theorem V8 env:WF (toC env):=fun t e h=>by
 obtain⟨_,h1,h2⟩:=wS h;rw[h1];exact h2
theorem KM κ env:mh κ (toC env)=fD κ env:=by
 unfold mh toC fD;rw[List.map_map];rfl
theorem Cv{κ env}(hw:WF env):∀ts {e},Cw env ts=some e->Sub (mh κ env) (fD κ e)
 | [],e,h=>by simp only[Cw,Option.some.injEq]at h;subst h;trivial
 | t::ts,e,h=>by
   simp only[Cw]at h;split at h
   .rename_i g x hl;split at h
    .rename_i e' he;injection h with h;subst h;have hg:=hw t _ hl;simp only at hg;subst hg;exact⟨kN hl,Cv hw ts he⟩
    .cases h
   .cases h
theorem Hr{n env}(hs:Zq n env):∀ts {e},Cw env ts=some e->yh n e=true
 | [],e,h=>by simp only[Cw,Option.some.injEq]at h;subst h;rfl
 | t::ts,e,h=>by
   simp only[Cw]at h;split at h
   .rename_i g x hl;split at h
    .rename_i e' he;injection h with h;subst h;have h1:=hs t _ hl;have h2:=Hr hs ts he;unfold yh at h2 |-;simp[h1,h2]
    .cases h
   .cases h
section
variable {Ke:Nat->Act->World->Prop} {Kr:Act->World->Prop} {env env':bP} {rest:List Oper}
theorem M.simX(bZ:eu P tt){r rest evs q ts}(h:DY N tt ld ops r evs env its ts=some (env',aR,q,q))(hk:M P ops rest Kn N n0 fx env' aR):M P ops (r++rest) Kn N n0 fx env its:=by
 unfold DY at h;cases hr:yc N tt ld ops r evs (toC env) its with
 | none=>simp[hr]at h
 | some z=>
   obtain⟨e1,i1,q1,q2⟩:=z;cases ho:Cw e1 ts with
   | none=>simp[hr,ho]at h
   | some e2=>
     simp only[hr,ho,Option.bind_some,Option.map_some,Option.some.injEq,Prod.mk.injEq]at h;obtain⟨rfl,rfl,rfl,rfl⟩:=h;intro κ w S;rw[<-KM];refine uf bZ rest r evs (toC env) its e1 _ _ hr (V8 env) (fun t e he=>?_) (fun κ w S' hw hs=>?_) κ w (S.env rfl)
     .have h1:=S.sj;unfold yh at h1;rw[List.all_eq_true]at h1;exact h1 _ (wR (wS he).1)
     .exact WL.prune (Cv hw ts ho) (hk κ w (S'.env (Hr hs ts ho)))
theorem Z.r(bZ:eu P tt){id os y}env'(ch:List (Nat×TypeId×List Cell))evs q
 (h:DY N tt (fun _=>true) os.toArray os evs env its (env'.map (·.1))=some (env',ch.foldl (fun i c=>lF i c.1 c.2.1 c.2.2) its,q,q)) (hk:Z P y Kn Ke Kr N n0 fx env' (ch.foldl (fun i c=>lF i c.1 c.2.1 c.2.2) its)):Z P (.seq (.region id os.toArray false) y) Kn Ke Kr N n0 fx env its:=
 Z.seq (Z.reg (by
  have:=M.simX (rest:=[]) bZ h (M.nT hk);rwa [List.append_nil]at this))
theorem M.sim(bZ:eu P tt)k env'(ch:List (Nat×TypeId×List Cell))evs q
 (h:DY N tt (fun _=>true) ops (rest.take k) evs env its (env'.map (·.1))=some (env',ch.foldl (fun i c=>lF i c.1 c.2.1 c.2.2) its,q,q)) (hk:M P ops (rest.drop k) Kn N n0 fx env' (ch.foldl (fun i c=>lF i c.1 c.2.1 c.2.2) its)):M P ops rest Kn N n0 fx env its:=by
 have:=M.simX bZ h hk;rwa [List.take_append_drop]at this
theorem Z.if'{c x y}{α:Type}{e X Y}{r:α}(hc:jN env c=some (vb e))(hp:(if e=true then X else Y)=some r)(ht:X=some r->Z P x Kn Ke Kr N n0 fx env its)(hf:Y=some r->Z P y Kn Ke Kr N n0 fx env its):Z P (.cond c x y) Kn Ke Kr N n0 fx env its:=fun κ w S=>
 WC.cond (t:=e) (eD hc) (fun he=>ht (gy hp he) κ w S) (fun he=>hf (dU hp he) κ w S)
theorem Z.Rl{c x y}(hc:jN env c=some (vb true))(ht:Z P x Kn Ke Kr N n0 fx env its):Z P (.cond c x y) Kn Ke Kr N n0 fx env its:=fun κ w S=>
 WC.cond (t:=true) (eD hc) (fun _=>ht κ w S) (fun he=>by cases he)
theorem Z.iff{c x y}(hc:jN env c=some (vb false))(hf:Z P y Kn Ke Kr N n0 fx env its):Z P (.cond c x y) Kn Ke Kr N n0 fx env its:=fun κ w S=>
 WC.cond (t:=false) (eD hc) (fun he=>by cases he) (fun _=>hf κ w S)
end
end
end V
end Go.Proofs.YtbgfhaahhdnogaaGreat
