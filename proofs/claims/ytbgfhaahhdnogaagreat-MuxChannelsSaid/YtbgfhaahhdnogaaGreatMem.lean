/- Memory read as plain data; what the call owns; what each ope -/
import Derived.Test.YtbgfhaahhdnogaaGreatOps
namespace Go.Proofs.YtbgfhaahhdnogaaGreat
namespace V
abbrev RT(α:Type):=(Nat->Prop)->World->List Value->α->Prop
class dM {α:Type} (R:RT α):Prop where
 step:∀{U U':Nat->Prop} {w w':World} {cs:List Value} {x:α},R U w cs x->(∀b,b<w.heap.size->¬ U b->w'.heap[b]?=w.heap[b]?)->(∀b,b<w.heap.size->U' b->U b)->R U' w' cs x
 one:∀{U:Nat->Prop} {w:World} {cs:List Value} {x:α},R U w cs x->∀u∈cs,u.oneCell'=true
def dG(k:IntKind):RT Int:=fun _ _ cs n=>cs=[.int k n]
def K8:RT Bool:=fun _ _ cs b=>cs=[.bool b]
def adn:RT (List Int):=fun _ _ cs s=>∃b,cs=[.string b]/\strOf b=s
instance(k:IntKind):dM (dG k):=⟨fun h _ _=>h,fun h u hu=>by unfold dG at h;subst h;simp at hu;subst hu;rfl⟩
instance:dM K8:=⟨fun h _ _=>h,fun h u hu=>by unfold K8 at h;subst h;simp at hu;subst hu;rfl⟩
instance:dM adn:=⟨fun h _ _=>h,fun h u hu=>by obtain⟨b,rfl,_⟩:=h;simp at hu;subst hu;rfl⟩
section
variable {α:Type}
def fJ(sz:Nat)(R:RT α)(U:Nat->Prop)(w:World):List Value->List α->Prop
 | es,[]=>es=[]
 | es,x::xs=>∃e1 e2,es=e1++e2/\e1.length=sz/\R U w e1 x/\fJ sz R U w e2 xs
def Mem(U:Nat->Prop)(w:World)(A:Option Addr)(es:List Value):Prop:=∀j u,es[j]?=some u->∃ad,A=some ad/\¬ U ad.block/\w.cell? (ad.add j)=some u
def Sl(sz:Nat)(R:RT α)(U:Nat->Prop)(w:World)(A:Option Addr)(c:Nat)(l:List α):Prop:=l.length<=c/\c<=maxLen/\∃es,fJ sz R U w es l/\Mem U w A es
def aN(sz:Nat)(R:RT α):RT (List α):=fun U w cs l=>∃A c,cs=[.slice A l.length c]/\Sl sz R U w A c l
def BT:TypeId:=5
def Fz(e:TypeId)(fz:Nat×Nat)(n:Nat):Prop:=fz=(0,0)\/(n<=fz.1/\e=BT)
def rO(w:World)(e:TypeId)(size:Nat)(v:Value)(n:Nat)(xs:List Value):Prop:=
 xs.length=n*size/\
 ((v=.slice none 0 0/\n=0)\/
  ∃(g:Nat) (pre:List Value) (cap:Nat) (cur post:List Value) (fz:Nat×Nat),v=.slice (some ⟨g,pre.length,none⟩) n cap/\Fz e fz (pre++cur++post).length/\w.heap[g]?=some (.cells (pre++cur++post).toArray e fz)/\n<=cap/\cap<=maxLen/\cur.length=cap*size/\cur.take (n*size)=xs)
theorem uq{α:Type}{pre cur post:List α}{j}(hj:j<cur.length):(pre++cur++post)[pre.length+j]?=cur[j]?:=by
 rw[List.append_assoc,List.getElem?_append_right (by omega),Nat.add_sub_cancel_left,List.getElem?_append_left hj]
theorem Ag{α:Type}{pre cur post vs:List α}{k}(hk:k+vs.length<=cur.length):(pre++cur++post).take (pre.length+k)++vs++(pre++cur++post).drop (pre.length+k+vs.length)=pre++(cur.take k++vs++cur.drop (k+vs.length))++post:=by
 have h1:(pre++cur++post).take (pre.length+k)=pre++cur.take k:=by
  rw[List.append_assoc,List.take_append,List.take_of_length_le (by omega),Nat.add_sub_cancel_left,List.take_append,show k-cur.length=0 from by omega,List.take_zero,List.append_nil]
 have h2:(pre++cur++post).drop (pre.length+k+vs.length)=cur.drop (k+vs.length)++post:=by
  rw[List.append_assoc,Nat.add_assoc,List.drop_append,List.drop_of_length_le (by omega),List.nil_append,Nat.add_sub_cancel_left,List.drop_append,show k+vs.length-cur.length=0 from by omega,List.drop_zero]
 rw[h1,h2];simp only[List.append_assoc]
theorem Ah{α:Type}{pre cur post cur':List α}(h:cur'.length=cur.length):(pre++cur'++post).length=(pre++cur++post).length:=by
 simp only[List.length_append,h]
theorem Tt{w e size v n xs}(h:w.ownsRow 0 e size v n xs):rO w e size v n xs:=by
 refine⟨h.1,?_⟩;rcases h.2 with hn|⟨g,cap,cur,hv,_,hg,h1,h2,h3,h4⟩
 .exact .inl hn
 .exact .inr ⟨g,[],cap,cur.toList,[],(0,0),hv,.inl rfl,by simpa using hg,h1,h2,by simpa using h3,h4⟩
theorem rO.cells{w e size v n xs}(h:rO w e size v n xs){A m c}(hg:v=.slice (some A) m c):∀j u,xs[j]?=some u->w.cell? (A.add j)=some u:=by
 intro j u hu;rcases h.2 with⟨rfl,_⟩|⟨g',pre,cap,cur,post,fz,rfl,_,hgg,_,_,_,htake⟩
 .cases hg
 .injection hg with hg _ _;injection hg with hg;subst hg;have hadd:(⟨g',pre.length,none⟩:Addr).add j=⟨g',pre.length+j,none⟩:=by unfold Addr.add;split<;>simp_all
  rw[hadd];rw[<-htake,List.getElem?_take]at hu;split at hu
  .simp only[World.cell?,hgg];have hj:j<cur.length:=(List.getElem?_eq_some_iff.1 hu).1;rw[<-hu,<-uq (pre:=pre) (post:=post) hj];simp
  .cases hu
theorem rO.lt{w e size v n xs}(h:rO w e size v n xs):∀k,v.ownBlock=some k->k<w.heap.size:=by
 intro k hk;rcases h.2 with⟨rfl,_⟩|⟨g,pre,cap,cur,post,fz,rfl,_,hg,_⟩
 .simp[Value.ownBlock]at hk
 .simp[Value.ownBlock]at hk;subst hk;exact(Array.getElem?_eq_some_iff.1 hg).1
def Own(sz:Nat)(E:TypeId)(R:RT α)(U:Nat->Prop)(w:World)(A:Option Addr)(c:Nat)(l:List α):Prop:=∃xs,rO w E sz (.slice A l.length c) l.length xs/\fJ sz R U w xs l
def IY(w:World)(g:Nat)(T:TypeId)(cs:List Value):Prop:=w.heap[g]?=some (.cells cs.toArray T (0,0))
def At(U:Nat->Prop)(w:World)(ad:Addr)(es:List Value):Prop:=¬ U ad.block/\∀j u,es[j]?=some u->w.cell? (ad.add j)=some u
theorem Iw{w:World}{p u}(h:w.cell? p=some u):p.block<w.heap.size:=by
 rcases Nat.lt_or_ge p.block w.heap.size with hlt|hge
 .exact hlt
 .simp[World.cell?,Array.getElem?_eq_none hge]at h
theorem yS{w w':World}{p}(h:w'.heap[p.block]?=w.heap[p.block]?):w'.cell? p=w.cell? p:=by
 unfold World.cell?;rw[h]
theorem block_add(ad:Addr)n:(ad.add n).block=ad.block:=by unfold Addr.add;split<;>rfl
theorem add_add(ad:Addr)m n:(ad.add m).add n=ad.add (m+n):=by
 unfold Addr.add;by_cases h1:m=0<;>by_cases h2:n=0<;>simp[h1,h2]<;>omega
theorem fJ.step{sz}{R:RT α}[dM R]{U U' w w'}(h1:∀b,b<w.heap.size->¬ U b->w'.heap[b]?=w.heap[b]?)(h2:∀b,b<w.heap.size->U' b->U b) :
 ∀l es,fJ sz R U w es l->fJ sz R U' w' es l
 | [],_,h=>h
 | x::xs,es,h=>by
   obtain⟨e1,e2,rfl,hl,hr,ht⟩:=h;exact⟨e1,e2,rfl,hl,dM.step hr h1 h2,fJ.step h1 h2 xs e2 ht⟩
theorem fJ.one{sz}{R:RT α}[dM R]{U w}:∀l es,fJ sz R U w es l->∀u∈es,u.oneCell'=true
 | [],es,h=>by simp only[fJ]at h;subst h;simp
 | x::xs,es,h=>by
   obtain⟨e1,e2,rfl,hl,hr,ht⟩:=h;intro u hu;rcases List.mem_append.1 hu with hu|hu
   .exact dM.one hr u hu
   .exact fJ.one xs e2 ht u hu
theorem fJ.length{sz}{R:RT α}{U w}:∀l es,fJ sz R U w es l->es.length=l.length*sz
 | [],es,h=>by simp only[fJ]at h;subst h;simp
 | x::xs,es,h=>by
   obtain⟨e1,e2,rfl,hl,hr,ht⟩:=h;rw[List.length_append,hl,fJ.length xs e2 ht,List.length_cons,Nat.succ_mul,Nat.add_comm]
theorem fJ.append{sz}{R:RT α}{U w}:∀l es m fs,fJ sz R U w es l->fJ sz R U w fs m->fJ sz R U w (es++fs) (l++m)
 | [],es,m,fs,h,k=>by simp only[fJ]at h;subst h;simpa using k
 | x::xs,es,m,fs,h,k=>by
   obtain⟨e1,e2,rfl,hl,hr,ht⟩:=h;exact⟨e1,e2++fs,by simp,hl,hr,fJ.append xs e2 m fs ht k⟩
theorem fJ.drop{sz}{R:RT α}{U w}:∀k l es,fJ sz R U w es l->fJ sz R U w (es.drop (k*sz)) (l.drop k)
 | 0,l,es,h=>by simpa using h
 | k+1,[],es,h=>by simp only[fJ]at h;subst h;simp[fJ]
 | k+1,x::xs,es,h=>by
   obtain⟨e1,e2,rfl,hl,hr,ht⟩:=h;have:=fJ.drop k xs e2 ht;have e:(e1++e2).drop ((k+1)*sz)=e2.drop (k*sz):=by
    rw[Nat.succ_mul,Nat.add_comm,<-List.drop_drop,<-hl,List.drop_left]
   rw[e];simpa using this
theorem fJ.take{sz}{R:RT α}{U w}:∀k l es,fJ sz R U w es l->fJ sz R U w (es.take (k*sz)) (l.take k)
 | 0,l,es,h=>by simp[fJ]
 | k+1,[],es,h=>by simp only[fJ]at h;subst h;simp[fJ]
 | k+1,x::xs,es,h=>by
   obtain⟨e1,e2,rfl,hl,hr,ht⟩:=h;have:=fJ.take k xs e2 ht;refine⟨e1,e2.take (k*sz),?_,hl,hr,this⟩;rw[List.take_append,hl,Nat.succ_mul,Nat.add_sub_cancel,List.take_of_length_le (by omega)]
theorem fJ.get{sz R U w}:∀l es i (x:α),fJ sz R U w es l->l[i]?=some x->∃e1,e1.length=sz/\R U w e1 x/\∀j u,e1[j]?=some u->es[i*sz+j]?=some u
 | [],es,i,x,h,hx=>by simp at hx
 | y::xs,es,0,x,h,hx=>by
   obtain⟨e1,e2,rfl,hl,hr,ht⟩:=h;simp at hx;subst hx;refine⟨e1,hl,hr,fun j u hu=>?_⟩;have:=(List.getElem?_eq_some_iff.1 hu).1;rw[Nat.zero_mul,Nat.zero_add,List.getElem?_append_left this];exact hu
 | y::xs,es,i+1,x,h,hx=>by
   obtain⟨e1,e2,rfl,hl,hr,ht⟩:=h;simp at hx;obtain⟨f,h1,h2,h3⟩:=fJ.get xs e2 i x ht hx;refine⟨f,h1,h2,fun j u hu=>?_⟩;rw[List.getElem?_append_right (by rw[hl,Nat.succ_mul];omega),<-h3 j u hu];congr 1;rw[hl,Nat.succ_mul];omega
theorem fJ.set{sz R U w}:∀l es i (x:α) e,fJ sz R U w es l->i<l.length->e.length=sz->R U w e x->fJ sz R U w (es.take (i*sz)++e++es.drop (i*sz+sz)) (l.set i x)
 | [],es,i,x,e,h,hi,_,_=>by simp at hi
 | y::xs,es,0,x,e,h,hi,he,hx=>by
   obtain⟨e1,e2,rfl,hl,hr,ht⟩:=h;refine⟨e,e2,?_,he,hx,ht⟩;simp[<-hl]
 | y::xs,es,i+1,x,e,h,hi,he,hx=>by
   obtain⟨e1,e2,rfl,hl,hr,ht⟩:=h;have:=fJ.set xs e2 i x e ht (by simpa using hi) he hx;refine⟨e1,_,?_,hl,hr,this⟩;rw[Nat.succ_mul,List.take_append,List.drop_append,hl,List.take_of_length_le (by omega),List.drop_of_length_le (by omega),List.nil_append];rw[show i*sz+sz-sz=i*sz from by omega,show i*sz+sz+sz-sz=i*sz+sz from by omega];simp[List.append_assoc]
theorem Mem.step{U U' w w' A es}(h:Mem U w A es)(h1:∀b,b<w.heap.size->¬ U b->w'.heap[b]?=w.heap[b]?)(h2:∀b,b<w.heap.size->U' b->U b):Mem U' w' A es:=fun j u hu=>by
 obtain⟨ad,rfl,hn,hc⟩:=h j u hu;have hlt:=Iw hc;rw[block_add]at hlt;exact⟨ad,rfl,fun hU=>hn (h2 _ hlt hU),(yS (by rw[block_add];exact h1 _ hlt hn)).trans hc⟩
theorem Sl.step{sz}{R:RT α}[dM R]{U U' w w' A c l}(h:Sl sz R U w A c l)(h1:∀b,b<w.heap.size->¬ U b->w'.heap[b]?=w.heap[b]?)(h2:∀b,b<w.heap.size->U' b->U b):Sl sz R U' w' A c l:=by
 obtain⟨a,b,es,he,hm⟩:=h;exact⟨a,b,es,fJ.step h1 h2 _ _ he,hm.step h1 h2⟩
instance(sz:Nat)(R:RT α) [dM R]:dM (aN sz R):=⟨fun h h1 h2=>by
 obtain⟨A,c,rfl,hs⟩:=h;exact⟨A,c,rfl,hs.step h1 h2⟩,
 fun h u hu=>by obtain⟨A,c,rfl,_⟩:=h;simp at hu;subst hu;rfl⟩
theorem Sl.nil{sz}{R:RT α}{U w A c}(hc:c<=maxLen):Sl sz R U w A c []:=⟨Nat.zero_le _,hc,[],rfl,fun j u hu=>by simp at hu⟩
theorem Sl.Qd{sz}{R:RT α}{U w}:Sl sz R U w none 0 []:=Sl.nil (Nat.zero_le _)
theorem Own.nil{sz E}{R:RT α}{U w}:Own sz E R U w none 0 []:=⟨[],⟨by simp,.inl ⟨rfl,rfl⟩⟩,rfl⟩
end
structure Step(X:List (Option Nat))(w w':World):Prop where
 os:w'.os=w.os
 tape:w'.tape=w.tape
 output:w'.output=w.output
 size:w.heap.size<=w'.heap.size
 block:∀b,b<w.heap.size->some b∉X->w'.heap[b]?=w.heap[b]?
theorem Step.refl{X w}:Step X w w:=⟨rfl,rfl,rfl,Nat.le_refl _,fun _ _ _=>rfl⟩
def ob(A:Option Addr):Option Nat:=A.map (·.block)
def Mu(U0:Nat->Prop)(L:List (Option Nat)):Nat->Prop:=fun b=>U0 b\/some b∈L
structure Ctx(U0:Nat->Prop)(X0:List (Option Nat))(w0:World)(L:List (Option Nat))(w:World):Prop where
 step:Step X0 w0 w
 u0:∀b,U0 b->b<w0.heap.size
 live:∀b,some b∈L->b<w.heap.size/\¬ U0 b/\(w0.heap.size<=b\/some b∈X0)
 sep:∀(i j b:Nat),i≠j->L[i]?=some (some b)->L[j]?=some (some b)->False
structure TR(U0:Nat->Prop)(L:List (Option Nat))(w:World)(L':List (Option Nat))(w':World)(X:List (Option Nat)):Prop where
 size:w.heap.size<=w'.heap.size
 block:∀b,b<w.heap.size->some b∉X->w'.heap[b]?=w.heap[b]?
 xin:∀b,some b∈X->some b∈L
 mono:∀b,b<w.heap.size->Mu U0 L' b->Mu U0 L b
section
variable {α:Type} {U0:Nat->Prop} {X0 X:List (Option Nat)} {w0 w w':World} {L L':List (Option Nat)}
theorem TR.h1(T:TR U0 L w L' w' X):∀b,b<w.heap.size->¬ Mu U0 L b->w'.heap[b]?=w.heap[b]?:=fun b hb hn=>T.block b hb fun e=>hn (.inr (T.xin b e))
theorem TR.sl{sz}{R:RT α}[dM R]{A c d}(T:TR U0 L w L' w' X)(h:Sl sz R (Mu U0 L) w A c d):Sl sz R (Mu U0 L') w' A c d:=h.step T.h1 T.mono
theorem TR.at_{ad es}(T:TR U0 L w L' w' X)(h:At (Mu U0 L) w ad es)(h0:es≠[]):At (Mu U0 L') w' ad es:=by
 obtain⟨hn,hc⟩:=h;have hlt:ad.block<w.heap.size:=by
  match es,h0 with
  | u::es,_=>
    have:=Iw (hc 0 u rfl);rwa [block_add]at this
 exact⟨fun hU=>hn (T.mono _ hlt hU),fun j u hu=>(yS (by rw[block_add];exact T.h1 _ hlt hn)).trans (hc j u hu)⟩
theorem IY.lt{w g t cs}(h:IY w g t cs):g<w.heap.size:=by
 rcases Nat.lt_or_ge g w.heap.size with hlt|hge
 .exact hlt
 .unfold IY at h;rw[Array.getElem?_eq_none hge]at h;cases h
theorem IY.cell{w g t cs}(h:IY w g t cs)i:w.cell? ⟨g,i,none⟩=cs[i]?:=by
 unfold IY at h;simp[World.cell?,h]
theorem TR.blk{g t cs}(T:TR U0 L w L' w' X)(hne:∀b,some g=some b->some b∉X)(h:IY w g t cs):IY w' g t cs:=
 (T.block g h.lt (hne g rfl)).trans h
theorem TR.own{sz E}{R:RT α}[dM R]{A c d}(T:TR U0 L w L' w' X)(hne:∀b,ob A=some b->some b∉X)(h:Own sz E R (Mu U0 L) w A c d):Own sz E R (Mu U0 L') w' A c d:=by
 obtain⟨xs,⟨hl,hr⟩,he⟩:=h;refine⟨xs,⟨hl,?_⟩,fJ.step T.h1 T.mono _ _ he⟩;rcases hr with h|⟨g,pre,cap,cur,post,fz,hv,hb,hg,rest⟩
 .exact .inl h
 .refine .inr ⟨g,pre,cap,cur,post,fz,hv,hb,?_,rest⟩;have hlt:g<w.heap.size:=by
   rcases Nat.lt_or_ge g w.heap.size with hlt|hge
   .exact hlt
   .rw[Array.getElem?_eq_none hge]at hg;cases hg
  rw[T.block g hlt (hne g (by injection hv with hA;subst hA;rfl))];exact hg
theorem Mu.weaken(h:∀b,some b∈L'->some b∈L):∀b,Mu U0 L' b->Mu U0 L b:=fun b hb=>hb.imp id (h b)
theorem TR.Ns(h:∀b,some b∈L'->some b∈L):TR U0 L w L' w []:=⟨Nat.le_refl _,fun _ _ _=>rfl,fun b e=>(by simp at e),fun b _=>Mu.weaken h b⟩
theorem join_some{o}{b:Nat}(h:o.join=some b):o=some (some b):=by
 cases o with
 | none=>cases h
 | some o=>cases o with
   | none=>cases h
   | some c=>exact congrArg some h
theorem sQ(is:List Nat)(hL:is.map (fun i=>(L[i]?).join)=L'):∀(k b:Nat),L'[k]?=some (some b)->∃i,is[k]?=some i/\L[i]?=some (some b):=fun k b hk=>by
 subst hL;rw[List.getElem?_map]at hk;cases hi:is[k]? with
 | none=>simp[hi]at hk
 | some i=>
   simp only[hi,Option.map_some,Option.some.injEq]at hk;exact⟨i,rfl,join_some hk⟩
theorem wO(is:List Nat)(hL:is.map (fun i=>(L[i]?).join)=L'):∀b,some b∈L'->some b∈L:=fun b hb=>by
 obtain⟨k,hk⟩:=List.getElem?_of_mem hb;obtain⟨i,_,hi⟩:=sQ is hL k b hk;exact List.mem_of_getElem? hi
theorem Ctx.pick(C:Ctx U0 X0 w0 L w)(is:List Nat)(hn:is.Nodup)(hL:is.map (fun i=>(L[i]?).join)=L'):Ctx U0 X0 w0 L' w:=by
 refine⟨C.step,C.u0,fun b hb=>C.live b (wO is hL b hb),fun p q b hpq hp hq=>?_⟩;obtain⟨i,h1,h2⟩:=sQ is hL p b hp;obtain⟨j,h3,h4⟩:=sQ is hL q b hq;refine C.sep i j b (fun e=>hpq ?_) h2 h4;subst e;exact(List.getElem?_inj (List.getElem?_eq_some_iff.1 h1).1 hn).1 (h1.trans h3.symm)
theorem TR.pick(is:List Nat)(hL:is.map (fun i=>(L[i]?).join)=L'):TR U0 L w L' w []:=TR.Ns (wO is hL)
theorem Ctx.II(C:Ctx U0 X0 w0 L w):Ctx U0 X0 w0 (none::L) w/\TR U0 L w (none::L) w []:=by
 refine⟨⟨C.step,C.u0,fun b hb=>C.live b (by simpa using hb),fun i j b hij hi hj=>?_⟩,TR.Ns fun b hb=>by simpa using hb⟩
 match i,j with
 | 0,_=>simp at hi
 | _+1,0=>simp at hj
 | i+1,j+1=>
   simp at hi hj;exact C.sep i j b (by omega) hi hj
theorem Own.toSl{sz E}{R:RT α}[dM R]{U U' A c d}(h:Own sz E R U w A c d)(hn:∀b,ob A=some b->¬ U' b)(hm:∀b,U' b->U b):Sl sz R U' w A c d:=by
 obtain⟨xs,hown,he⟩:=h;have he':fJ sz R U' w xs d:=fJ.step (fun _ _ _=>rfl) (fun b _=>hm b) _ _ he;rcases hown.2 with⟨hv,h0⟩|⟨g,pre,cap,cur,post,fz,hv,hb,hg,hnc,hcm,hcs,htake⟩
 .injection hv with hA _ hc;have hd:d=[]:=List.eq_nil_of_length_eq_zero h0;subst hd;exact Sl.nil (by rw[hc];exact Nat.zero_le _)
 .injection hv with hA hl hc;subst hA;subst hc;refine⟨hnc,hcm,xs,he',fun j u hu=>⟨_,rfl,hn g rfl,?_⟩⟩;exact hown.cells rfl j u hu
theorem Ctx.off(C:Ctx U0 X0 w0 L w){i y}(hi:L[i]?=some y)(is:List Nat)(hL:is.map (fun i=>(L[i]?).join)=L')(hni:i∉is):∀b,y=some b->¬ Mu U0 L' b:=fun b hy hM=>by
 subst hy;rcases hM with hU|hm
 .exact(C.live b (List.mem_of_getElem? hi)).2.1 hU
 .obtain⟨k,hk⟩:=List.getElem?_of_mem hm;obtain⟨j,h1,h2⟩:=sQ is hL k b hk;exact C.sep i j b (fun e=>by subst e;exact hni (List.mem_of_getElem? h1)) hi h2
theorem Ctx.ne(C:Ctx U0 X0 w0 L w){i y}(hi:L[i]?=some y)(is:List Nat)(hL:is.map (fun i=>(L[i]?).join)=X)(hni:i∉is):∀b,y=some b->some b∉X:=fun b hy hm=>
 C.off hi is hL hni b hy (.inr hm)
theorem Ctx.alloc(C:Ctx U0 X0 w0 L w)o:Ctx U0 X0 w0 (some w.heap.size::L) (w.alloc o)/\TR U0 L w (some w.heap.size::L) (w.alloc o) []:=by
 have hsz:(w.alloc o).heap.size=w.heap.size+1:=by simp
 have hlt:∀b,some b∈L->b<w.heap.size:=fun b hb=>(C.live b hb).1;refine⟨⟨⟨C.step.os,C.step.tape,C.step.output,by have:=C.step.size;omega,fun b hb hX=>?_⟩,C.u0,fun b hb=>?_,fun i j b hij hi hj=>?_⟩,⟨by omega,fun b hb _=>heap_alloc_old w o b hb,fun b e=>(by simp at e),fun b hb hM=>?_⟩⟩
 .have:=C.step.size;rw[heap_alloc_old w o b (by omega)];exact C.step.block b hb hX
 .rcases List.mem_cons.1 hb with e|hb
  .injection e with e;subst e;have:=C.step.size;exact⟨by omega,fun hU=>by have:=C.u0 _ hU;omega,.inl this⟩
  .obtain⟨h1,h2,h3⟩:=C.live b hb;exact⟨by omega,h2,h3⟩
 .match i,j with
  | 0,0=>exact hij rfl
  | 0,j+1=>
    simp at hi hj;have:=hlt b (List.mem_of_getElem? hj);omega
  | i+1,0=>
    simp at hi hj;have:=hlt b (List.mem_of_getElem? hi);omega
  | i+1,j+1=>
    simp at hi hj;exact C.sep i j b (by omega) hi hj
 .rcases hM with hU|hm
  .exact .inl hU
  .rcases List.mem_cons.1 hm with e|hm
   .injection e with e;omega
   .exact .inr hm
theorem Ctx.drew(C:Ctx U0 X0 w0 L w):Ctx U0 X0 w0 L {w with drawn:=w.drawn+1}/\TR U0 L w L {w with drawn:=w.drawn+1} []:=
 ⟨⟨⟨C.step.os,C.step.tape,C.step.output,C.step.size,C.step.block⟩,C.u0,C.live,C.sep⟩,⟨Nat.le_refl _,fun _ _ _=>rfl,fun b e=>(by simp at e),fun _ _ h=>h⟩⟩
theorem Ctx.turn(C:Ctx U0 X0 w0 L w){i x y}(hi:L[i]?=some x)(hos:w'.os=w.os)(afY:w'.tape=w.tape)(hout:w'.output=w.output)(hsz:w.heap.size<=w'.heap.size)
 (hb:∀b,b<w.heap.size->x≠some b->w'.heap[b]?=w.heap[b]?) (hy:y=x\/y=none\/(y=some w.heap.size/\w.heap.size<w'.heap.size)) (hL:L.set i y=L'):Ctx U0 X0 w0 L' w'/\TR U0 L w L' w' [x]:=by
 subst hL;have hin:∀b,x=some b->some b∈L:=fun b e=>by subst e;exact List.mem_of_getElem? hi
 have hmem:∀b,some b∈L.set i y->some b∈L\/(b=w.heap.size/\w.heap.size<w'.heap.size):=fun b hb'=>by
  rcases List.mem_or_eq_of_mem_set hb' with h|h
  .exact .inl h
  .rcases hy with e|e|⟨e,hlt⟩
   .exact .inl (hin b (e▸h.symm))
   .rw[e]at h;cases h
   .rw[e]at h;injection h with h;exact .inr ⟨h,hlt⟩
 have h0:=C.step.size;refine⟨⟨⟨hos.trans C.step.os,afY.trans C.step.tape,hout.trans C.step.output,Nat.le_trans h0 hsz,fun b hb' hX=>?_⟩,C.u0,fun b hb'=>?_,fun p q b hpq hp hq=>?_⟩,⟨hsz,fun b hb1 hb2=>hb b hb1 (fun e=>hb2 (by simp[e])),fun b e=>hin b (by rw[List.mem_singleton]at e;exact e.symm),fun b hb' hM=>?_⟩⟩
 .refine(hb b (by omega) fun e=>?_).trans (C.step.block b hb' hX);rcases(C.live b (hin b e)).2.2 with h|h
  .omega
  .exact hX h
 .rcases hmem b hb' with h|⟨rfl,hlt⟩
  .obtain⟨h1,h2,h3⟩:=C.live b h;exact⟨by omega,h2,h3⟩
  .exact⟨hlt,fun hU=>by have:=C.u0 _ hU;omega,.inl h0⟩
 .have hil:i<L.length:=(List.getElem?_eq_some_iff.1 hi).1;have cell:∀(p b:Nat),(L.set i y)[p]?=some (some b)->(p≠i/\L[p]?=some (some b))\/(p=i/\y=some b):=fun p b hp=>by
   by_cases e:p=i
   .subst e;rw[List.getElem?_set_self hil]at hp;exact .inr ⟨rfl,by injection hp⟩
   .rw[List.getElem?_set_ne (fun h=>e h.symm)]at hp;exact .inl ⟨e,hp⟩
  have newer:∀p,p≠i->L[p]?=some (some b)->y=some b->False:=fun p hpi hp hyb=>by
   rcases hy with e|e|⟨e,_⟩
   .rw[e]at hyb;subst hyb;exact C.sep p i b hpi hp hi
   .rw[e]at hyb;cases hyb
   .rw[e]at hyb;injection hyb with hyb;have:=(C.live b (List.mem_of_getElem? hp)).1;omega
  rcases cell p b hp with⟨h1,h2⟩|⟨h1,h2⟩<;>rcases cell q b hq with⟨h3,h4⟩|⟨h3,h4⟩
  .exact C.sep p q b hpq h2 h4
  .exact newer p h1 h2 h4
  .exact newer q h3 h4 h2
  .exact hpq (h1.trans h3.symm)
 .rcases hM with hU|hm
  .exact .inl hU
  .rcases hmem b hm with h|⟨rfl,_⟩
   .exact .inr h
   .omega
end
end V
end Go.Proofs.YtbgfhaahhdnogaaGreat
