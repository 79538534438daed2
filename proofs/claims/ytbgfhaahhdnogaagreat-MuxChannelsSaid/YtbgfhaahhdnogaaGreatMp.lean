/- Maps whose keys are integers, read as plain data. -/
import Derived.Test.YtbgfhaahhdnogaaGreatAct
import Derived.MapKept
import Derived.Carry
namespace Go.Proofs.YtbgfhaahhdnogaaGreat
namespace V
section
variable {α:Type} {P:Program}
def kT(k:IntKind)(R:RT α)(U:Nat->Prop)(w:World):List MapEntry->List (Int×α)->Prop
 | es,[]=>es=[]
 | es,x::xs=>∃e es',es=e::es'/\e.key=.int k x.1/\R U w [e.val] x.2/\kT k R U w es' xs
def EN(k:IntKind)(R:RT α)(U:Nat->Prop)(w:World)(b:Nat)(l:List (Int×α)):Prop:=∃es clock,w.heap[b]?=some (.map es clock)/\kT k R U w es.toList l
theorem kT.step{k}{R:RT α}[dM R]{U U' w w'}(h1:∀b,b<w.heap.size->¬ U b->w'.heap[b]?=w.heap[b]?)(h2:∀b,b<w.heap.size->U' b->U b) :
 ∀l es,kT k R U w es l->kT k R U' w' es l
 | [],_,h=>h
 | _::xs,_,h=>by
   obtain⟨e,es',rfl,hk,hr,ht⟩:=h;exact⟨e,es',rfl,hk,dM.step hr h1 h2,kT.step h1 h2 xs es' ht⟩
theorem EN.step{k}{R:RT α}[dM R]{U U' w w' b l}(h:EN k R U w b l)(hb:w'.heap[b]?=w.heap[b]?)(h1:∀b,b<w.heap.size->¬ U b->w'.heap[b]?=w.heap[b]?)(h2:∀b,b<w.heap.size->U' b->U b):EN k R U' w' b l:=by
 obtain⟨es,c,hh,he⟩:=h;exact⟨es,c,hb.trans hh,kT.step h1 h2 _ _ he⟩
theorem EN.lt{k}{R:RT α}{U w b l}(h:EN k R U w b l):b<w.heap.size:=by
 obtain⟨es,c,hh,_⟩:=h;exact(Array.getElem?_eq_some_iff.1 hh).1
theorem kT.no{k}{R:RT α}{U w x}:∀l es n,kT k R U w es l->oV l x=none->Instr.findNow (.int k) (.int k x) es n=some none
 | [],es,n,h,_=>by
   simp only[kT]at h;subst h;rfl
 | (j,y)::xs,es,n,h,hg=>by
  obtain⟨e,es',rfl,hk,hr,ht⟩:=h;unfold oV at hg;by_cases hx:(x==j)=true
  .rw[if_pos hx]at hg;cases hg
  .rw[if_neg hx]at hg;have ih:=kT.no xs es' (n+1) ht hg;simp only[Instr.findNow,hk,Instr.sameNow,if_true];rw[(Bool.not_eq_true _).mp hx];exact ih
theorem kT.at_{k R U w x}{y:α}:∀l es n,kT k R U w es l->oV l x=some y->
 ∃j e,Instr.findNow (.int k) (.int k x) es n=some (some (n+j,e.val))/\es[j]?=some e/\e.key=.int k x/\R U w [e.val] y/\∀z v,R U w [v] z->kT k R U w (es.set j {e with val:=v}) (qX l x z)
 | [],es,n,_,hg=>by cases hg
 | (i,y0)::xs,es,n,h,hg=>by
  obtain⟨e,es',rfl,hk,hr,ht⟩:=h;unfold oV at hg;by_cases hx:(x==i)=true
  .rw[if_pos hx]at hg;have hxi:x=i:=by simpa using hx
   subst hxi;have hy:=Option.some.inj hg;subst hy;refine⟨0,e,?_,rfl,hk,hr,fun z v hz=>?_⟩
   .simp only[Instr.findNow,hk,Instr.sameNow,if_true];rw[hx];rfl
   .unfold qX;rw[if_pos hx];exact⟨_,es',rfl,hk,hz,ht⟩
  .rw[if_neg hx]at hg;obtain⟨j,e1,h1,h2,h3,h4,h5⟩:=kT.at_ xs es' (n+1) ht hg;refine⟨j+1,e1,?_,h2,h3,h4,fun z v hz=>?_⟩
   .simp only[Instr.findNow,hk,Instr.sameNow,if_true];rw[(Bool.not_eq_true _).mp hx];show Instr.findNow (.int k) (.int k x) es' (n+1)=_;rw[h1,show n+1+j=n+(j+1)from by omega]
   .unfold qX;rw[if_neg hx];exact⟨e,_,rfl,hk,hr,h5 z v hz⟩
theorem kT.push{k R U w x}{z:α}{e}(hk:e.key=.int k x)(hz:R U w [e.val] z):∀l es,kT k R U w es l->oV l x=none->kT k R U w (es++[e]) (qX l x z)
 | [],es,h,_=>by
   simp only[kT]at h;subst h;exact⟨e,[],rfl,hk,hz,rfl⟩
 | (i,y0)::xs,es,h,hg=>by
  obtain⟨e0,es',rfl,hk0,hr,ht⟩:=h;unfold oV at hg;by_cases hx:(x==i)=true
  .rw[if_pos hx]at hg;cases hg
  .rw[if_neg hx]at hg;unfold qX;rw[if_neg hx];exact⟨e0,es'++[e],rfl,hk0,hr,kT.push hk hz xs es' ht hg⟩
theorem Sw{k R U w b l t kt e x v}{z:α}(h:EN k R U w b l)(ht:P.underlying t=some (.map kt e))(hk:P.underlying kt=some (.int k))(hv:R U w [v] z) :
 ∃es' c',(Instr.mapUpdate t (.map (some b)) (.int k x) v).run P w=.ok () {w with heap:=w.heap.setIfInBounds b (.map es' c')}/\kT k R U w es'.toList (qX l x z):=by
 obtain⟨es,c,hh,he⟩:=h;have hI:MapKept.IsKey (.int k) (.int k x):=rfl;cases hg:oV l x with
 | none=>
   have h1:=kT.no l es.toList 0 he hg;refine⟨es.push ⟨.int k x,v,c⟩,c+1,?_,?_⟩
   .simp[Instr.mapUpdate,run_underlying ht,MapKept.run_getObj_map hh,MapKept.run_checkKey hk hI,MapKept.run_findKey hk h1,MapKept.run_setObj_map _ hh,Result.andThen]
   .rw[Array.toList_push];exact kT.push rfl hv l _ he hg
 | some y=>
   obtain⟨j,e1,h1,h2,h3,h4,h5⟩:=kT.at_ l es.toList 0 he hg;have hj:j<es.size:=by
    have:=(List.getElem?_eq_some_iff.1 h2).1;simpa using this
   have he1:es[j]?=some e1:=by simpa using h2
   refine⟨es.modify j fun e=>{e with key:=.int k x,val:=v},c,?_,?_⟩
   .simp[Instr.mapUpdate,run_underlying ht,MapKept.run_getObj_map hh,MapKept.run_checkKey hk hI,MapKept.run_findKey hk h1,MapKept.run_setObj_map _ hh,Result.andThen,he1,h3,MapKept.run_keyThatStays hI]
   .have:=h5 z v hv;have e2:(es.modify j fun e=>{e with key:=.int k x,val:=v}).toList=es.toList.set j {e1 with val:=v}:=by
     rw[Array.toList_modify];have:es.toList[j]?=some e1:=h2;rw[List.modify_eq_set,this];simp[<-h3]
    rw[e2];exact this
end
end V
end Go.Proofs.YtbgfhaahhdnogaaGreat
