/- Frames and memory as plain descriptions: what is known of a -/
import Derived.Test.YtbgfhaahhdnogaaGreatDraw
import Derived.Test.YtbgfhaahhdnogaaGreatMp
import Derived.Test.YtbgfhaahhdnogaaGreatGl
namespace Go.Proofs.YtbgfhaahhdnogaaGreat
namespace V
inductive Cell where
 | v (x:Value)
 | p (i o:Nat)
 | s (i:Nat)
 | t (i:Nat)
 | m (i:Nat)
 | w (fn:FuncId) (i o:Nat)
inductive SV where
 | c (x:Cell)
 | g (l:List Cell)
 | u (l:List (Cell ⊕ List Cell))
 | f (fn:FuncId) (l:List Cell)
inductive Conc where
 | b (n:Nat)
 | a (ad:Addr)
 | r (A:Option Addr) (n c:Nat)
 | s (x:ByteArray)
 | m (b:Option Nat)
 | z
inductive Item:Type 1 where
 | k (T:TypeId) (cs:List Cell)
 | elt (src:Option (Nat×Int)) (ow:Bool) (cs:List Cell)
 | o {α:Type} (sz:Nat) (E:TypeId) (R:RT α) [dM R] (l:List α)
 | d {α:Type} (sz:Nat) (R:RT α) [dM R] (l:List α)
 | str (s:List Int)
 | mp {α:Type} (k:IntKind) (R:RT α) [dM R] (ow:Bool) (l:List (Int×α))
 | lm (k:IntKind) (l:List (Int×Cell))
 | F6
 | e
abbrev bP:=List (Nat×SV)
abbrev nl:Cell:=.v (.slice none 0 0)
abbrev ci(k:IntKind)(x:Int):Cell:=.v (.int k x)
abbrev cb(x:Bool):Cell:=.v (.bool x)
abbrev cf(f:FuncId):Cell:=.v (.func (.func f) #[] #[])
abbrev vi(k:IntKind)(x:Int):SV:=.c (.v (.int k x))
abbrev vb(x:Bool):SV:=.c (.v (.bool x))
abbrev vp(i o:Nat):SV:=.c (.p i o)
abbrev vs(i:Nat):SV:=.c (.s i)
abbrev vt(i:Nat):SV:=.c (.t i)
abbrev vm(i:Nat):SV:=.c (.m i)
abbrev vn:SV:=.c (.v (.slice none 0 0))
def Cell.den(κ:List Conc):Cell->Value
 | .v x=>x
 | .p i o=>match κ[i]? with
   | some (.b n)=>.pointer (some ⟨n,o,none⟩)
   | some (.a ad)=>.pointer (some (ad.add o))
   | some (.r (some ad) _ _)=>.pointer (some (ad.add o))
   | _=>undef
 | .s i=>match κ[i]? with
   | some (.r A n c)=>.slice A n c
   | _=>undef
 | .t i=>match κ[i]? with
   | some (.s x)=>.string x
   | _=>undef
 | .m i=>match κ[i]? with
   | some (.m b)=>.map b
   | _=>undef
 | .w fn i o=>.func (.func fn) #[match κ[i]? with
   | some (.b n)=>.pointer (some ⟨n,o,none⟩)
   | some (.a ad)=>.pointer (some (ad.add o))
   | some (.r (some ad) _ _)=>.pointer (some (ad.add o))
   | _=>undef] #[]
def Lh(κ:List Conc):Cell ⊕ List Cell->Value
 | .inl x=>x.den κ
 | .inr l=>.agg (l.map (Cell.den κ)).toArray
def SV.den(κ:List Conc):SV->Value
 | .c x=>x.den κ
 | .g l=>.agg (l.map (Cell.den κ)).toArray
 | .u l=>.tuple (l.map (Lh κ)).toArray
 | .f fn l=>.func (.func fn) #[] (l.map (Cell.den κ)).toArray
def fD(κ:List Conc)(e:bP):Env:=e.map fun p=>(p.1,p.2.den κ)
def Cell.lt(n:Nat):Cell->Bool
 | .v _=>true
 | .p i _=>Nat.blt i n
 | .s i=>Nat.blt i n
 | .t i=>Nat.blt i n
 | .m i=>Nat.blt i n
 | .w _ i _=>Nat.blt i n
def aek(n:Nat):Cell ⊕ List Cell->Bool
 | .inl x=>x.lt n
 | .inr l=>l.all (Cell.lt n)
def SV.lt(n:Nat):SV->Bool
 | .c x=>x.lt n
 | .g l=>l.all (Cell.lt n)
 | .u l=>l.all (aek n)
 | .f _ l=>l.all (Cell.lt n)
def Item.lt(n:Nat):Item->Bool
 | .k _ cs=>cs.all (Cell.lt n)
 | .elt (some (i,_)) _ cs=>Nat.blt i n&&cs.all (Cell.lt n)
 | .elt none _ cs=>cs.all (Cell.lt n)
 | .lm _ l=>l.all fun p=>p.2.lt n
 | _=>true
def yh(n:Nat)(e:bP):Bool:=e.all fun p=>p.2.lt n
def oP(n:Nat)(its:List Item):Bool:=its.all (Item.lt n)
theorem Cell.oC{n m}(h:n<=m):∀{c:Cell},c.lt n=true->c.lt m=true
 | .v _,_=>rfl
 | .p i _,h1=>by simp only[Cell.lt,Nat.blt_eq]at h1 |-;omega
 | .s i,h1=>by simp only[Cell.lt,Nat.blt_eq]at h1 |-;omega
 | .t i,h1=>by simp only[Cell.lt,Nat.blt_eq]at h1 |-;omega
 | .m i,h1=>by simp only[Cell.lt,Nat.blt_eq]at h1 |-;omega
 | .w _ i _,h1=>by simp only[Cell.lt,Nat.blt_eq]at h1 |-;omega
theorem fP{n m}(h:n<=m){l:List Cell}(h1:l.all (Cell.lt n)=true):l.all (Cell.lt m)=true:=by
 rw[List.all_eq_true]at h1 |-;exact fun c hc=>Cell.oC h (h1 c hc)
theorem SV.oC{n m}(h:n<=m):∀{x:SV},x.lt n=true->x.lt m=true
 | .c x,h1=>Cell.oC h h1
 | .g l,h1=>fP h h1
 | .f _ l,h1=>fP h h1
 | .u l,h1=>by
   simp only[SV.lt]at h1 |-;rw[List.all_eq_true]at h1 |-;intro t ht;have:=h1 t ht;cases t with
   | inl x=>exact Cell.oC h this
   | inr l=>exact fP h this
theorem Item.oC{n m}(h:n<=m):∀{x:Item},x.lt n=true->x.lt m=true
 | .k _ cs,h1=>fP h h1
 | .elt (some (i,_)) _ cs,h1=>by
   simp only[Item.lt,Bool.and_eq_true,Nat.blt_eq]at h1 |-;exact⟨by omega,fP h h1.2⟩
 | .elt none _ cs,h1=>fP (l:=cs) h h1
 | @Item.o _ _ _ _ _ _,_=>rfl
 | @Item.d _ _ _ _ _,_=>rfl
 | .str _,_=>rfl
 | @Item.mp _ _ _ _ _ _,_=>rfl
 | .lm _ l,h1=>by
   simp only[Item.lt,List.all_eq_true]at h1 |-;exact fun p hp=>Cell.oC h (h1 p hp)
 | .F6,_=>rfl
 | .e,_=>rfl
theorem sH{n m}(h:n<=m){e}(h1:yh n e=true):yh m e=true:=by
 unfold yh at *;rw[List.all_eq_true]at h1 |-;exact fun c hc=>SV.oC h (h1 c hc)
theorem vZ{n m}(h:n<=m){e}(h1:oP n e=true):oP m e=true:=by
 unfold oP at *;rw[List.all_eq_true]at h1 |-;exact fun c hc=>Item.oC h (h1 c hc)
theorem uy{κ κx}:∀{c:Cell},c.lt κ.length=true->c.den (κ++κx)=c.den κ
 | .v _,_=>rfl
 | .p i o,h=>by
   simp only[Cell.lt,Nat.blt_eq]at h;simp only[Cell.den,List.getElem?_append_left h]
 | .s i,h=>by
   simp only[Cell.lt,Nat.blt_eq]at h;simp only[Cell.den,List.getElem?_append_left h]
 | .t i,h=>by
   simp only[Cell.lt,Nat.blt_eq]at h;simp only[Cell.den,List.getElem?_append_left h]
 | .m i,h=>by
   simp only[Cell.lt,Nat.blt_eq]at h;simp only[Cell.den,List.getElem?_append_left h]
 | .w _ i _,h=>by
   simp only[Cell.lt,Nat.blt_eq]at h;simp only[Cell.den,List.getElem?_append_left h]
theorem gT{κ κx}{l:List Cell}(h:l.all (Cell.lt κ.length)=true):l.map (Cell.den (κ++κx))=l.map (Cell.den κ):=by
 rw[List.all_eq_true]at h;exact List.map_congr_left fun c hc=>uy (h c hc)
theorem aa0{κ κx}:∀{x:SV},x.lt κ.length=true->x.den (κ++κx)=x.den κ
 | .c x,h=>uy h
 | .g l,h=>by simp only[SV.den];rw[gT h]
 | .f _ l,h=>by simp only[SV.den];rw[gT h]
 | .u l,h=>by
   simp only[SV.den];congr 2;simp only[SV.lt]at h;rw[List.all_eq_true]at h;refine List.map_congr_left fun t ht=>?_;have:=h t ht;cases t with
   | inl x=>exact uy this
   | inr l=>simp only[Lh];rw[gT this]
theorem jX{κ κx e}(h:yh κ.length e=true):fD (κ++κx) e=fD κ e:=by
 unfold yh at h;rw[List.all_eq_true]at h;exact List.map_congr_left fun p hp=>by rw[aa0 (h p hp)]
def RV:RT Value:=fun _ _ cs v=>cs=[v]/\v.oneCell'=true
instance:dM RV:=⟨fun h _ _=>h,fun h u hu=>by obtain⟨rfl,h⟩:=h;simp at hu;subst hu;exact h⟩
def OK(κ:List Conc)(U:Nat->Prop)(w:World):Item->Conc->Prop
 | .k T cs,.b n=>IY w n T (cs.map (Cell.den κ))
 | .elt none _ cs,.a ad=>At U w ad (cs.map (Cell.den κ))/\cs≠[]
 | .elt (some (i,iv)) ow cs,.a ad=>At (fun b=>ow=false/\U b) w ad (cs.map (Cell.den κ))/\cs≠[]/\∃A n c,κ[i]?=some (.r (some A) n c)/\ad=A.add (iv.toNat*cs.length)/\0<=iv/\iv<n
 | @Item.o _ sz E R _ l,.r A n c=>n=l.length/\Own sz E R U w A c l
 | @Item.d _ sz R _ l,.r A n c=>n=l.length/\Sl sz R U w A c l
 | .str s,.s x=>strOf x=s
 | @Item.mp _ k R _ true l,.m b=>∃n,b=some n/\EN k R U w n l
 | @Item.mp _ k R _ false l,.m b=>(b=none/\l=[])\/∃n,b=some n/\¬ U n/\EN k R U w n l
 | .lm k l,.m b=>∃n,b=some n/\EN k RV U w n (l.map fun p=>(p.1,p.2.den κ))
 | .F6,.b _=>True
 | .e,_=>True
 | _,_=>False
def iM:Item->Conc->Option Nat
 | .k ..,.b n=>some n
 | @Item.o _ _ _ _ _ _,.r A _ _=>ob A
 | @Item.mp _ _ _ _ true _,.m b=>b
 | .lm ..,.m b=>b
 | _,_=>none
def dL(its:List Item)(κ:List Conc):List (Option Nat):=List.zipWith iM its κ
def zL(U0:Nat->Prop)(X0:List (Option Nat))(w0:World):Prop:=∀p∈Z6,p.2≠[]/\¬ U0 p.1/\some p.1∉X0/\∀j v,p.2[j]?=some v->w0.cell? ⟨p.1,j,none⟩=some v
theorem zL.now{U0 X0 L w0 w}(g:zL U0 X0 w0)(C:Ctx U0 X0 w0 L w):zL U0 L w:=fun p hp=>by
 obtain⟨h0,h1,h2,h3⟩:=g p hp;have hlt:p.1<w0.heap.size:=by
  cases hc:p.2 with
  | nil=>exact absurd hc h0
  | cons v r=>exact Iw (h3 0 v (by rw[hc];rfl))
 refine⟨h0,h1,fun hm=>?_,fun j v hj=>(yS (C.step.block p.1 hlt h2)).trans (h3 j v hj)⟩;rcases(C.live p.1 hm).2.2 with h|h
 .omega
 .exact h2 h
structure Fx where
 U0:Nat->Prop
 X0:List (Option Nat)
 w0:World
 κ0:List Conc
 gl:zL U0 X0 w0
 px:Value->World->Prop
structure St(n0:Nat)(fx:Fx)(env:bP)(its:List Item)(κ:List Conc)(w:World):Prop where
 len:κ.length=its.length
 pre:κ.take n0=fx.κ0
 n0:n0<=κ.length
 sj:yh its.length env=true
 Fe:oP its.length its=true
 ctx:Ctx fx.U0 fx.X0 fx.w0 (dL its κ) w
 ok:∀(i:Nat) (it:Item) (c:Conc),its[i]?=some it->κ[i]?=some c->OK κ (Mu fx.U0 (dL its κ)) w it c
def A(N n0:Nat)(fx:Fx)(env:bP)(its:List Item)(a:Act)(w:World):Prop:=∃κ,Holds N (fD κ env) a/\St n0 fx env its κ w
theorem bU{its κ}{i:Nat}{it c}(h1:its[i]?=some it)(h2:κ[i]?=some c):(dL its κ)[i]?=some (iM it c):=by
 unfold dL;rw[List.getElem?_zipWith,h1,h2]
theorem uF{its κ}{i b:Nat}(h:(dL its κ)[i]?=some (some b)):∃it c,its[i]?=some it/\κ[i]?=some c/\iM it c=some b:=by
 unfold dL at h;rw[List.getElem?_zipWith]at h;cases h1:its[i]? with
 | none=>simp[h1]at h
 | some it=>cases h2:κ[i]? with
   | none=>simp[h1,h2]at h
   | some c=>exact⟨it,c,rfl,rfl,by simpa [h1,h2]using h⟩
theorem Zc{its κ b}:some b∈dL its κ↔∃(i:Nat) (it:Item) (c:Conc),its[i]?=some it/\κ[i]?=some c/\iM it c=some b:=by
 constructor
 .intro h;obtain⟨i,hi⟩:=List.getElem?_of_mem h;exact⟨i,uF hi⟩
 .rintro⟨i,it,c,h1,h2,h3⟩;have:=bU h1 h2;rw[h3]at this;exact List.mem_of_getElem? this
section
variable {N n0:Nat} {fx:Fx} {env:bP} {its:List Item} {κ:List Conc} {w:World}
theorem St.iy(S:St n0 fx env its κ w){i:Nat}{it}(h:its[i]?=some it):∃c,κ[i]?=some c/\OK κ (Mu fx.U0 (dL its κ)) w it c:=by
 have hl:i<κ.length:=by rw[S.len];exact(List.getElem?_eq_some_iff.1 h).1
 exact⟨κ[i],List.getElem?_eq_getElem hl,S.ok i it _ h (List.getElem?_eq_getElem hl)⟩
def zJ(its:List Item)(κ:List Conc)(w:World):Prop:=∀(i:Nat) (it:Item),its[i]?=some it->∃c U,κ[i]?=some c/\OK κ U w it c
theorem St.NZ(S:St n0 fx env its κ w):zJ its κ w:=fun i it h=>by
 obtain⟨c,h1,h2⟩:=S.iy h;exact⟨c,_,h1,h2⟩
theorem St.prune(S:St n0 fx env its κ w){env'}(h:yh its.length env'=true):St n0 fx env' its κ w:=⟨S.len,S.pre,S.n0,h,S.Fe,S.ctx,S.ok⟩
theorem St.lk(S:St n0 fx env its κ w){t x}(h:(t,x)∈env):x.lt its.length=true:=by
 have:=S.sj;unfold yh at this;rw[List.all_eq_true]at this;exact this _ h
def Item.ow:Item->Bool
 | .elt _ true _=>true
 | _=>false
theorem OK.next{κx it c L L' X w'}(hsc:it.lt κ.length=true)(how:it.ow=false)(T:TR fx.U0 L w L' w' X)(hX:∀b,iM it c=some b->some b∉X)(h:OK κ (Mu fx.U0 L) w it c):OK (κ++κx) (Mu fx.U0 L') w' it c:=by
 cases it with
 | k Ty cs=>cases c with
   | b n=>
     simp only[OK]at h |-;rw[gT hsc];exact T.blk (fun b e=>hX b (by simpa [iM]using e)) h
   | _=>exact h.elim
 | elt src ow cs=>cases c with
   | a ad=>
     cases src with
     | none=>
       simp only[OK]at h |-;rw[gT (by simpa [Item.lt]using hsc)];exact⟨T.at_ h.1 (by simpa using h.2),h.2⟩
     | some q=>
       obtain⟨i,iv⟩:=q;simp only[Item.lt,Bool.and_eq_true,Nat.blt_eq]at hsc;simp only[OK]at h |-;rw[gT hsc.2];obtain⟨h1,h2,A,n,c,h3,h4⟩:=h;have how':ow=false:=by cases ow<;>simp_all [Item.ow]
       subst how';have h1':At (Mu fx.U0 L) w ad (cs.map (Cell.den κ)):=⟨fun hu=>h1.1 ⟨rfl,hu⟩,h1.2⟩;have h1'':=T.at_ h1' (by simpa using h2);exact⟨⟨fun hu=>h1''.1 hu.2,h1''.2⟩,h2,A,n,c,by rw[List.getElem?_append_left hsc.1];exact h3,h4⟩
   | _=>cases src<;>exact h.elim
 | o sz E R l=>cases c with
   | r A n c=>
     simp only[OK]at h |-;exact⟨h.1,T.own (fun b e=>hX b (by simpa [iM]using e)) h.2⟩
   | _=>exact h.elim
 | d sz R l=>cases c with
   | r A n c=>
     simp only[OK]at h |-;exact⟨h.1,T.sl h.2⟩
   | _=>exact h.elim
 | str s=>cases c with
   | s x=>exact h
   | _=>exact h.elim
 | mp k R ow l=>cases c with
   | m b=>
     cases ow with
     | true=>
       simp only[OK]at h |-;obtain⟨n,rfl,hm⟩:=h;exact⟨n,rfl,hm.step (T.block n hm.lt (hX n rfl)) T.h1 T.mono⟩
     | false=>
       simp only[OK]at h |-;rcases h with h|⟨n,rfl,hn,hm⟩
       .exact .inl h
       .exact .inr ⟨n,rfl,fun hU=>hn (T.mono n hm.lt hU),hm.step (T.h1 n hm.lt hn) T.h1 T.mono⟩
   | _=>cases ow<;>exact h.elim
 | lm k l=>cases c with
   | m b=>
     simp only[OK]at h |-;obtain⟨n,rfl,hm⟩:=h;have e:(l.map fun p=>(p.1,p.2.den (κ++κx)))=l.map fun p=>(p.1,p.2.den κ):=List.map_congr_left fun p hp=>by
      simp only[Item.lt,List.all_eq_true]at hsc;rw[uy (hsc p hp)]
     rw[e];exact⟨n,rfl,hm.step (T.block n hm.lt (hX n rfl)) T.h1 T.mono⟩
   | _=>exact h.elim
 | F6=>cases c with
   | b n=>trivial
   | _=>exact h.elim
 | e=>trivial
theorem St.next(S:St n0 fx env its κ w){env' aR κx w' X}(ch:Nat->Prop)(hlen:(κ++κx).length=aR.length)(hsce:yh aR.length env'=true)(acy:oP aR.length aR=true)
 (C:Ctx fx.U0 fx.X0 fx.w0 (dL aR (κ++κx)) w') (T:TR fx.U0 (dL its κ) w (dL aR (κ++κx)) w' X)
 (hold:∀(i:Nat) (it:Item),i<its.length->¬ ch i->aR[i]?=some it->its[i]?=some it/\it.ow=false/\∀c b,κ[i]?=some c->iM it c=some b->some b∉X)
 (hnew:∀(i:Nat) (it:Item) (c:Conc),(its.length<=i\/ch i)->aR[i]?=some it->(κ++κx)[i]?=some c->OK (κ++κx) (Mu fx.U0 (dL aR (κ++κx))) w' it c):St n0 fx env' aR (κ++κx) w':=by
 refine⟨hlen,?_,?_,hsce,acy,C,fun i it c h1 h2=>?_⟩
 .rw[List.take_append_of_le_length S.n0];exact S.pre
 .rw[List.length_append];have:=S.n0;omega
 .rcases Nat.lt_or_ge i its.length with hlt|hge
  .by_cases hc:ch i
   .exact hnew i it c (.inr hc) h1 h2
   .obtain⟨h3,h4,h5⟩:=hold i it hlt hc h1;have h2':κ[i]?=some c:=by rw[List.getElem?_append_left (by rw[S.len];exact hlt)]at h2;exact h2
    have hsc:it.lt κ.length=true:=by
     have:=S.Fe;unfold oP at this;rw[List.all_eq_true]at this;rw[S.len];exact this _ (List.mem_of_getElem? h3)
    exact OK.next hsc h4 T (fun b hb=>h5 c b h2' hb) (S.ok i it c h3 h2')
  .exact hnew i it c (.inl hge) h1 h2
end
section
variable (P:Program)
def Z(c:Code)(Kn:Act->World->Prop)(Ke:Nat->Act->World->Prop)(Kr:Act->World->Prop)(N n0:Nat)(fx:Fx)(env:bP)(its:List Item):Prop:=
 ∀κ w,St n0 fx env its κ w->WC P fx.px c Kn Ke Kr N (fD κ env) w
def M(ops:Array Oper)(rest:List Oper)(Kn:Act->World->Prop)(N n0:Nat)(fx:Fx)(env:bP)(its:List Item):Prop:=
 ∀κ w,St n0 fx env its κ w->WL P fx.px ops rest Kn N (fD κ env) w
end
section
variable {P:Program} {Kn:Act->World->Prop} {Ke:Nat->Act->World->Prop} {Kr:Act->World->Prop} {N n0:Nat} {fx:Fx} {env env':bP} {its aR:List Item} {ops:Array Oper} {rest:List Oper}
theorem A.go{c a w}(ha:A N n0 fx env its a w)(h:Z P c Kn Ke Kr N n0 fx env its):IL P fx.px c Kn Ke Kr a w:=by
 obtain⟨κ,h1,h2⟩:=ha;exact h κ w h2 a h1
theorem A.Aw{a w}(ha:A N n0 fx env its a w)(h:M P ops rest Kn N n0 fx env its):wpList P ops (QN fx.px Kn) rest a w:=by
 obtain⟨κ,h1,h2⟩:=ha;exact h κ w h2 a h1
theorem Z.mk{c}(h:∀a w,A N n0 fx env its a w->IL P fx.px c Kn Ke Kr a w):Z P c Kn Ke Kr N n0 fx env its:=fun κ w hS a ha=>h a w ⟨κ,ha,hS⟩
theorem Z.seq{x y}(h:Z P x (fun a w=>IL P fx.px y Kn Ke Kr a w) Ke Kr N n0 fx env its):Z P (.seq x y) Kn Ke Kr N n0 fx env its:=fun κ w hS=>WC.seq (h κ w hS)
theorem Z.cut{x y}J(h:Z P x J Ke Kr N n0 fx env its)(h2:∀a w,J a w->IL P fx.px y Kn Ke Kr a w):Z P (.seq x y) Kn Ke Kr N n0 fx env its:=fun κ w hS=>WC.aa6 J (h κ w hS) h2
theorem Z.aF{y DJ Wd Kr'}(h:Z P y DJ Wd Kr' N n0 fx env its):Z P .skip (fun a w=>IL P fx.px y DJ Wd Kr' a w) Ke Kr N n0 fx env its:=fun κ w hS=>WC.aF (h κ w hS)
theorem Z.kJ(h:∀a w,A N n0 fx env its a w->Kn a w):Z P .skip Kn Ke Kr N n0 fx env its:=fun κ w hS=>WC.skip fun a ha=>h a w ⟨κ,ha,hS⟩
theorem Z.pY{y i DJ Wd}(he:Ke i=fun a w=>IL P fx.px y DJ Wd Kr a w)(h:Z P y DJ Wd Kr N n0 fx env its):Z P (.exit i) Kn Ke Kr N n0 fx env its:=fun κ w hS=>WC.pY he (h κ w hS)
theorem Z.xJ{i J}(he:Ke i=J)(h:∀a w,A N n0 fx env its a w->J a w):Z P (.exit i) Kn Ke Kr N n0 fx env its:=fun κ w hS=>WC.xJ he fun a ha=>h a w ⟨κ,ha,hS⟩
theorem Z.block{i c}(h:Z P c Kn (inB i Kn Ke) Kr N n0 fx env its):Z P (.block i c) Kn Ke Kr N n0 fx env its:=fun κ w hS=>WC.block (h κ w hS)
theorem Z.reg{id os}(h:M P os.toArray os Kn N n0 fx env its):Z P (.region id os.toArray false) Kn Ke Kr N n0 fx env its:=fun κ w hS=>WC.region (h κ w hS)
theorem M.nT{y DJ}(h:Z P y DJ Ke Kr N n0 fx env its):M P ops [] (fun a w=>IL P fx.px y DJ Ke Kr a w) N n0 fx env its:=fun κ w hS=>WL.nT (h κ w hS)
theorem M.aV(h:∀a w,A N n0 fx env its a w->Kn a w):M P ops [] Kn N n0 fx env its:=fun κ w hS=>WL.nil fun a ha=>h a w ⟨κ,ha,hS⟩
theorem M.cutAt k J(h1:M P ops (rest.take k) J N n0 fx env its)(h2:∀a w,J a w->wpList P ops (QN fx.px Kn) (rest.drop k) a w):M P ops rest Kn N n0 fx env its:=fun κ w hS=>WL.cutAt k J (h1 κ w hS) h2
def EA(t:Nat):bP->Option SV
 | []=>none
 | (d,v)::l=>match Nat.beq t d with
  | true=>some v
  | false=>EA t l
def jN(e:bP):Operand->Option SV
 | .tmp t=>EA t e
 | .const (.agg cs)=>some (.g (cs.toList.map .v))
 | .const (.tuple vs)=>match vs.toList with
   | []=>some (.u [])
   | _=>none
 | .const v=>some (.c (.v v))
 | .global _=>none
 | .func f=>some (.f f [])
theorem iZ{κ t x}:∀{e},EA t e=some x->lk t (fD κ e)=some (x.den κ)
 | (d,v)::l,h=>by
  simp only[EA]at h;simp only[fD,List.map_cons,lk];cases hb:Nat.beq t d with
  | true=>rw[hb]at h;simp only[Option.some.injEq]at h;simp[h]
  | false=>rw[hb]at h;exact iZ (e:=l) h
theorem wR{t x}:∀{e},EA t e=some x->(t,x)∈e
 | (d,v)::l,h=>by
  simp only[EA]at h;cases hb:Nat.beq t d with
  | true=>
    rw[hb]at h;simp only[Option.some.injEq]at h;rw[Nat.eq_of_beq_eq_true hb,h];exact List.mem_cons_self ..
  | false=>rw[hb]at h;exact List.mem_cons_of_mem _ (wR h)
theorem eD{κ x v e}(h:jN e x=some v):ev (fD κ e) x=some (v.den κ):=by
 cases x with
 | tmp t=>exact iZ h
 | const c=>
   cases c with
   | agg cs=>
     simp only[jN,Option.some.injEq]at h;subst h;simp only[ev,SV.den,List.map_map];have:(Cell.den κ ∘ Cell.v)=id:=rfl;rw[this,List.map_id]
   | tuple vs=>
     simp only[jN]at h;split at h
     .rename_i hv;injection h with h;subst h;simp only[ev,SV.den,List.map_nil];rw[<-hv]
     .cases h
   | _=>simp only[jN,Option.some.injEq]at h;subst h;rfl
 | global g=>cases h
 | func f=>simp only[jN,Option.some.injEq]at h;subst h;rfl
theorem UE{n x v e}(hs:yh n e=true)(h:jN e x=some v):v.lt n=true:=by
 cases x with
 | tmp t=>
   unfold yh at hs;rw[List.all_eq_true]at hs;exact hs _ (wR h)
 | const c=>
   cases c with
   | agg cs=>
     simp only[jN,Option.some.injEq]at h;subst h;simp[SV.lt,Cell.lt]
   | tuple vs=>
     simp only[jN]at h;split at h
     .injection h with h;subst h;rfl
     .cases h
   | _=>simp only[jN,Option.some.injEq]at h;subst h;rfl
 | global g=>cases h
 | func f=>simp only[jN,Option.some.injEq]at h;subst h;rfl
end
end V
end Go.Proofs.YtbgfhaahhdnogaaGreat
