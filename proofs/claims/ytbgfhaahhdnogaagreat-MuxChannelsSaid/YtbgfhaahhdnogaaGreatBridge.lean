/- From the reading of the arguments (DataW.trod) to the readin -/
import Derived.Test.YtbgfhaahhdnogaaGreatRep
import Derived.Test.YtbgfhaahhdnogaaGreatRows
import Derived.ProofKit
import Derived.SizedLaws
import Derived.Below
import Derived.ChangeSame
import Derived.Deep.Slices
namespace Go.Proofs.YtbgfhaahhdnogaaGreat
namespace V
open Go.ChangeShapes Go.WideShapes Go.ChangeAt Go.RowKit Go.Deep
abbrev Y8:Nat->Prop:=Mu (fun _=>False) []
theorem XR b:¬ Y8 b:=by simp[Mu]
def Opens{α:Type}(P:Program)(t:TypeId)(sz:Nat)(R:RT α)(G:α->Prop):Prop:=
 ∀{H:Type} {enc:TypeId×Value->H} {w:World} {fuel:Nat} {cs:List Value} {x:DataW H×List MemPlace},DataW.trod enc P w 0 (fun _=>true) true fuel t cs=some x->
  (∀n∈x.1.weights P t,n<=reachBytes)->cs.length=sz/\∃d,R Y8 w cs d/\G d
def kZ(k:IntKind)(n:Int):Prop:=k.min<=n/\n<=k.max
def Ld{α:Type}(G:α->Prop)(l:List α):Prop:=l.length<=reachBytes/\∀x∈l,G x
theorem dO{P t k}(ht:P.underlying t=some (.int k)):Opens P t 1 (dG k) (kZ k):=fun h _=>by
 obtain⟨n,rfl,_,hw⟩:=DataW.trod_int ht h;refine⟨rfl,n,rfl,?_⟩;simpa [Lit.wf,kZ]using hw
theorem jS{l m:List Value}i(h:l=m):l.getD i undef=m.getD i undef:=by rw[h]
theorem Od{c:Nat->List Value}{sz}:∀n,(∀i,i<n->(c i).length=sz)->((List.range n).flatMap c).length=n*sz/\∀j u,((List.range n).flatMap c)[j]?=some u->∃i r,i<n/\j=i*sz+r/\(c i)[r]?=some u
 | 0,_=>⟨by simp,fun j u h=>by simp at h⟩
 | n+1,hc=>by
   obtain⟨h1,h2⟩:=Od n fun i hi=>hc i (by omega);have e:(List.range (n+1)).flatMap c=(List.range n).flatMap c++c n:=by simp[List.range_succ]
   rw[e];refine⟨by rw[List.length_append,h1,hc n (by omega),Nat.succ_mul],fun j u hu=>?_⟩;by_cases hj:j<((List.range n).flatMap c).length
   .rw[List.getElem?_append_left hj]at hu;obtain⟨i,r,a,b,d⟩:=h2 j u hu;exact⟨i,r,by omega,b,d⟩
   .rw[List.getElem?_append_right (by omega)]at hu;refine⟨n,j-n*sz,by omega,by omega,?_⟩;rw[h1]at hu;exact hu
theorem UK{α sz}{R:RT α}{w c d}:∀(is:List Nat),(∀i∈is,(c i).length=sz/\R Y8 w (c i) (d i))->fJ sz R Y8 w (is.flatMap c) (is.map d)
 | [],_=>rfl
 | i::is,h=>⟨c i,is.flatMap c,by simp,(h i (by simp)).1,(h i (by simp)).2,UK is fun j hj=>h j (by simp[hj])⟩
theorem mY{H P e n}:∀{ds} {d:DataW H},d∈ds->n∈d.weights P e->n∈DataW.weightsAll P e ds
 | [],_,h,_=>by simp at h
 | x::ds,d,h,hn=>by
   rw[DataW.weightsAll,List.mem_append];rcases List.mem_cons.1 h with rfl|h
   .exact .inl hn
   .exact .inr (mY h hn)
theorem sV{α}[Inhabited α]{P t e sz}{R:RT α}{G}(ht:P.underlying t=some (.slice e))(hc:P.cellsOf e=sz)(hb:Nat.blt 0 (P.bytesOf e)=true)(ho:Opens P e sz R G):Opens P t 1 (aN sz R) (Ld G):=fun {H enc w fuel cs x} h hw=>by
 rcases open_slice ht h with⟨rfl,rfl⟩|⟨a,len,cap,m,n,D,Pl,rfl,_,hl,hm,hmm,rfl,hx⟩
 .exact⟨rfl,[],⟨none,0,rfl,Sl.Qd⟩,by simp,fun x hx=>by simp at hx⟩
 have hmm:m=cap:=hmm;subst hmm;have hw1:∀k∈((List.range len).map D++(List.range (m-len)).map fun j=>D (len+j)).length*P.bytesOf e::DataW.weightsAll P e ((List.range len).map D)++DataW.weightsAll P e ((List.range (m-len)).map fun j=>D (len+j)),k<=reachBytes:=fun k hk=>hw k (by
  simp only[DataW.weights,ht];simpa using hk)
 obtain⟨c,hcx⟩:=choose_lt (n:=m) (α:=List Value) (p:=fun i cs=>w.cells? 0 (a.add (i*P.cellsOf e)) (P.cellsOf e)=some cs/\DataW.trod enc P w 0 (fun _=>true) true n e cs=some (D i,Pl i)) hx;obtain⟨d,hd⟩:=choose_lt (n:=len) (α:=α) (p:=fun i d=>(c i).length=sz/\R Y8 w (c i) d/\G d) fun i hi=>by
  obtain⟨h1,d,h2,h3⟩:=ho (hcx i (by omega)).2 (fun k hk=>hw1 k (by
   simp only[List.cons_append,List.mem_cons,List.mem_append];exact .inr (.inl (mY (List.mem_map.2 ⟨i,List.mem_range.2 hi,rfl⟩) hk))))
  exact⟨d,h1,h2,h3⟩
 have hlen:len<=reachBytes:=by
  have:=hw1 _ (by simp;exact .inl rfl);have hb':0<P.bytesOf e:=by simpa [Nat.blt_eq]using hb
  have h3:((List.range len).map D++(List.range (m-len)).map fun j=>D (len+j)).length=m:=by simp;omega
  have h4:m*1<=m*P.bytesOf e:=Nat.mul_le_mul_left _ hb';simp only[List.length_append,List.length_map,List.length_range]at h3 this;rw[h3]at this;omega
 refine⟨rfl,(List.range len).map d,⟨some a,m,by simp,by simpa using hl,hm,(List.range len).flatMap c,UK _ fun i hi=>⟨(hd i (List.mem_range.1 hi)).1,(hd i (List.mem_range.1 hi)).2.1⟩,?_⟩,by simpa using hlen,fun x hx=>?_⟩
 .intro j u hu;obtain⟨i,r,hi,rfl,hr⟩:=(Od len fun i hi=>(hd i hi).1).2 j u hu;obtain⟨_,hl2,hcell⟩:=World.cells?_some (hcx i (by omega)).1;refine⟨a,rfl,XR _,?_⟩;have hr':r<P.cellsOf e:=by
   have:=(List.getElem?_eq_some_iff.1 hr).1;omega
  have:=hcell r hr';rw[hr,add_add,hc]at this;exact this
 .obtain⟨i,hi,rfl⟩:=List.mem_map.1 hx;exact(hd i (List.mem_range.1 hi)).2.2
theorem tY{H enc P w fuel t cs x fs}(ht:P.underlying t=some (.struct fs))(h:DataW.trod enc P w 0 (fun _=>true) true fuel t cs=some x)(hw:∀n∈x.1.weights P t,n<=reachBytes) :
 cs.length=P.cellsOf t/\∀(i:Nat) f,fs[i]?=some f->∃(n:Nat) (y:DataW H×List MemPlace),DataW.trod enc P w 0 (fun _=>true) true n f.type ((cs.drop f.offset).take (P.cellsOf f.type))=some y/\∀k∈y.1.weights P f.type,k<=reachBytes:=by
 obtain⟨xs,n,rfl,rfl,hl,hxs,hf⟩:=DataW.trod_struct ht h;refine⟨hl,fun i f hi=>?_⟩;have h1:=hf i f hi;have hlt:i<xs.length:=by
  rw[hxs];exact(Array.getElem?_eq_some_iff.1 hi).1
 rw[List.getElem?_eq_getElem hlt]at h1;refine⟨n,_,h1,fun k hk=>hw k ?_⟩;simp only[DataW.weights,ht];refine DataW.weights_mem_each (j:=i) (t:=f.type) ?_ (by simp[List.getElem?_eq_getElem hlt]) k hk;simp[hi]
theorem bN{α P u sz}{R:RT α}{G}(ho:Opens P u sz R G){H enc w}{cs:List Value}{fs:Array Field}
 (h:∀(i:Nat) (f:Field),fs[i]?=some f->∃(n:Nat) (y:DataW H×List MemPlace),DataW.trod enc P w 0 (fun _=>true) true n f.type ((cs.drop f.offset).take (P.cellsOf f.type))=some y/\∀k∈y.1.weights P f.type,k<=reachBytes)
 (i off n:Nat) (hf:(fs[i]?).map (fun f=>(f.type,f.offset))=some (u,off)) (hn:P.cellsOf u=n):∃d,R Y8 w ((cs.drop off).take n) d/\G d:=by
 cases hi:fs[i]? with
 | none=>simp[hi]at hf
 | some f=>
   rw[hi]at hf;simp only[Option.map_some,Option.some.injEq,Prod.mk.injEq]at hf;obtain⟨rfl,rfl⟩:=hf;obtain⟨m,y,h1,h2⟩:=h i f hi;rw[hn]at h1;obtain⟨_,d,hd,hg⟩:=ho h1 h2;exact⟨d,hd,hg⟩
section
variable {H:Type} {enc:TypeId×Value->H} {P:Program} {W:World} {b0:Nat} {r:Reach} {t:TypeId} {v:Value} {d:DataW H} {p:List MemPlace}
theorem M5{α sz}{R:RT α}{G fs}(ht:P.underlying t=some (.struct fs))(ho:Opens P t sz R G)(hok:Value.okWide P W r b0 t v)(h:DataW.Trod enc P W 0 (fun _=>true) true t v d p)(hw:∀n∈d.weights P t,n<=reachBytes) :
 ∃cs x,v=.agg (List.toArray cs)/\R Y8 W cs x/\G x:=by
 obtain⟨cs,rfl,_⟩:=okWide_struct ht hok;obtain⟨fuel,hf⟩:=h;obtain⟨hl,x,hx,hg⟩:=ho hf hw;exact⟨cs.toList,x,by simp,hx,hg⟩
theorem I8{ts ds}(h:(DataW.weightsEach P ts ds).all (·<=reachBytes)=true)(j:Nat)(ht:ts[j]?=some t)(hd:ds[j]?=some d):∀n∈d.weights P t,n<=reachBytes:=fun n hn=>by
 have:=List.all_eq_true.1 h _ (DataW.weights_mem_each ht hd n hn);simpa using this
end
section
variable {H:Type} {enc:TypeId×Value->H} {P:Program}
theorem F4(hl:laidOutB P=true){W W'}(hB:Below W.heap.size W W'){sp}:∀{ts} {vs} {ds} {p},(∀t∈ts,P.readableRec t=true/\t<P.types.size)->
 DataW.TrodAll enc P W 0 (fun _=>true) true ts vs ds p->(∀x∈p,x.block<W.heap.size)->(∀x∈p,sp x.block=true)->DataW.TrodAll enc P W' 0 sp true ts vs ds p
 | [],[],[],_,_,h,_,_=>h
 | t::ts,v::vs,d::ds,_,hr,h,h1,h2=>by
   obtain⟨p,q,ha,hb,rfl⟩:=h;refine⟨p,q,WideElems.Trod_stays hl (hr t (by simp)).1 (hr t (by simp)).2 ha (fun x hx=>hB.same (h1 x (by simp[hx]))) (fun x hx=>h2 x (by simp[hx])),?_,rfl⟩;exact F4 hl hB (fun t ht=>hr t (by simp[ht])) hb (fun x hx=>h1 x (by simp[hx])) (fun x hx=>h2 x (by simp[hx]))
 | [],[],_::_,_,_,h,_,_=>h.elim
 | [],_::_,_,_,_,h,_,_=>by cases h
 | _::_,[],_,_,_,h,_,_=>by cases h
 | _::_,_::_,[],_,_,h,_,_=>by cases h
theorem PS{f}{s:ChangeSpec}{apart fresh handsOn again W W' args ds gs before tb}
 (hW:DataW.Whole enc P f.params.toList s.vars apart W args.toList ds gs before) (hv:s.vars=[]) (hs:s.fn H (ds++gs)={results:=[.lit (.bool true)],args:=ds}) (hr:f.resultTypes = #[tb]) (hb:P.underlying tb=some .bool)
 (hl:laidOutB P=true) (hrec:∀t∈f.params.toList,P.readableRec t=true/\t<P.types.size) (hB:Below W.heap.size W W'):s.post enc P f apart fresh handsOn again W args (.bool true) W':=by
 have hlt:∀p∈before,p.block<W.heap.size:=fun p hp=>hW.lt p hp;obtain⟨p,q,hA,hV,rfl,hz,hn⟩:=id hW;rw[hv]at hV;obtain⟨rfl,rfl⟩:=trodVars_none hV;simp only[List.append_nil]at hlt hz hn hs hW;have hargs:∀sp:Nat->Bool,(∀x∈p,sp x.block=true)->DataW.TrodAll enc P W' 0 sp true f.params.toList args.toList ds p:=fun sp hsp=>F4 hl hB hrec hA hlt hsp;have hres:∀(b:Nat) (sp:Nat->Bool) (hd:Bool),DataW.TrodAll enc P W' b sp hd f.resultTypes.toList ((Value.bool true).resultList f.resultTypes.size) [.lit (.bool true)] []:=fun b sp hd=>by
  rw[hr];exact trodAll_mk1 ⟨1,by simp[DataW.trod,hb,Value.cells]⟩
 have hok:∀(j:Nat) (t:TypeId) (r:Value),f.resultTypes[j]?=some t->((Value.bool true).resultList f.resultTypes.size)[j]?=some r->Value.okWide P W' .any 0 t r:=ok_one hr rfl (okWide_bool_mk hb true);refine⟨ds,[],p,[],p,[],hW,?_,?_,?_,hB.frame _,fun _=>⟨hok,[.lit (.bool true)]++ds,[],p,⟨p,[],?_,?_,by simp,?_,?_⟩,fun x hx _=>hx⟩⟩
 .rw[List.append_nil,hs];exact hres _ _ _
 .rw[List.append_nil,hs];exact hargs _ fun x hx=>by simpa using hlt x hx
 .rw[List.append_nil,hs,hv];rfl
 .have:=trodAll_append (hargs (fun _=>true) fun _ _=>rfl) (hres 0 (fun _=>true) true);simpa using this
 .rw[hv];rfl
 .intro b off hp;rw[hB.frozen (hlt _ hp)];exact hz b off hp
 .exact hn
theorem Vu{W W'}(C:Ctx (fun _=>False) [] W [] W'):Below W.heap.size W W':=⟨C.step.os,C.step.tape,C.step.output,C.step.size,fun k hk=>C.step.block k hk (by simp)⟩
theorem shut{f fn}{s:ChangeSpec}{apart fresh handsOn again W args ds gs before tb}
 (hc:Calls P f args W fun e w=>∃v,e=.returned v/\v=.bool true/\Ctx (fun _=>False) [] W [] w)
 (hW:DataW.Whole enc P fn.params.toList s.vars apart W args.toList ds gs before) (hv:s.vars=[]) (hs:s.fn H (ds++gs)={results:=[.lit (.bool true)],args:=ds}) (hr:fn.resultTypes = #[tb]) (hb:P.underlying tb=some .bool)
 (hl:laidOutB P=true) (hrec:(fn.params.toList.all fun t=>P.readableRec t&&decide (t<P.types.size))=true):Calls P f args W fun e W'=>∃v,e=.returned v/\s.post enc P fn apart fresh handsOn again W args v W':=by
 refine hc.mono fun e w ⟨v,he,hv',C⟩=>⟨v,he,?_⟩;subst hv';refine PS hW hv hs hr hb hl (fun t ht=>?_) (Vu C);have:=List.all_eq_true.1 hrec t ht;simpa using this
def OKs(κ:List Conc)(U:Nat->Prop)(w:World):List Item->List Conc->Prop
 | [],[]=>True
 | it::its,c::cs=>OK κ U w it c/\OKs κ U w its cs
 | _,_=>False
theorem OKs.get{κ U w}:∀{its} {cs},OKs κ U w its cs->∀(i:Nat) it c,its[i]?=some it->cs[i]?=some c->OK κ U w it c
 | [],[],_,i,it,c,h,_=>by simp at h
 | x::its,y::cs,h,0,it,c,h1,h2=>by simp at h1 h2;subst h1;subst h2;exact h.1
 | x::its,y::cs,h,i+1,it,c,h1,h2=>by simp at h1 h2;exact h.2.get i it c h1 h2
 | [],_::_,h,_,_,_,_,_=>h.elim
 | _::_,[],h,_,_,_,_,_=>h.elim
def afe:Item->Bool
 | @Item.d _ _ _ _ _=>true
 | .str _=>true
 | _=>false
theorem Qx{f av its aR W args}(spec:Spec P f av its (vb true) aR)κ(hl:κ.length=its.length)(hn:(its.all afe&&(yh its.length (w9 0 av)&&oP its.length its))=true)(gl:zL (fun _=>False) [] W)(hok:OKs κ Y8 W its κ)(ha:(av.map (SV.den κ)).toArray=args) :
 Calls P f args W fun e w=>∃v,e=.returned v/\v=.bool true/\Ctx (fun _=>False) [] W [] w:=by
 subst ha;simp only[Bool.and_eq_true]at hn;obtain⟨h1,h2,h3⟩:=hn;rw[List.all_eq_true]at h1;have hnone:∀x∈dL its κ,x=none:=by
  intro x hx;cases x with
  | none=>rfl
  | some b=>
    obtain⟨i,it,c,h4,h5,h6⟩:=Zc.1 hx;have:=h1 it (List.mem_of_getElem? h4);cases it with
    | d sz R l=>cases c<;>cases h6
    | str s=>cases c<;>cases h6
    | _=>cases this
 have hmem:∀b,some b∉dL its κ:=fun b hb=>by have:=hnone _ hb;cases this
 have C0:Ctx (fun _=>False) (dL its κ) W (dL its κ) W:=⟨Step.refl,fun b h=>h.elim,fun b hb=>absurd hb (hmem b),fun i j b _ h=>absurd (List.mem_of_getElem? h) (hmem b)⟩;have gl0:zL (fun _=>False) (dL its κ) W:=fun p hp=>⟨(gl p hp).1,fun h=>h,hmem p.1,(gl p hp).2.2.2⟩;have S:St its.length ⟨fun _=>False,dL its κ,W,κ,gl0,fun _ _=>False⟩ (w9 0 av) its κ W:=by
  refine⟨hl,by rw[<-hl];exact List.take_length,by rw[hl];exact Nat.le_refl _,h2,h3,C0,fun i it c h4 h5=>?_⟩;have h6:=hok.get i it c h4 h5;have hlt:it.lt κ.length=true:=by
   unfold oP at h3;rw[List.all_eq_true]at h3;rw[hl];exact h3 _ (List.mem_of_getElem? h4)
  have h7:=OK.ext (κx:=[]) hlt (U':=Mu (fun _=>False) (dL its κ)) (fun b hb=>hb.elim (fun h=>h.elim) fun h=>absurd h (hmem b)) h6;rwa [List.append_nil]at h7
 refine(spec _ κ W gl0 S).mono ?_;rintro e w ⟨κx,rfl,S'⟩;refine⟨_,rfl,rfl,⟨⟨S'.ctx.step.os,S'.ctx.step.tape,S'.ctx.step.output,S'.ctx.step.size,fun b hb _=>S'.ctx.step.block b hb (hmem b)⟩,S'.ctx.u0,fun b hb=>by simp at hb,fun i j b _ h=>by simp at h⟩⟩
end
end V
end Go.Proofs.YtbgfhaahhdnogaaGreat
