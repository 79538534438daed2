/- Maps of method values: made, filled, read. -/
import Derived.Test.YtbgfhaahhdnogaaGreatMap
namespace Go.Proofs.YtbgfhaahhdnogaaGreat
namespace V
section
variable {P:Program} {N n0:Nat} {fx:Fx} {its aR:List Item} {κ:List Conc} {w:World} {tt:TT} {env:bP}
def F8(tt:TT)(ty:TypeId)(k:IntKind):Bool:=match jU ty tt with
 | some ⟨.map kt e,_,_,_,_⟩=>(match jU kt tt,jU e tt with
   | some ⟨.int k',_,_,_,_⟩,some ⟨_,_,_,some .nilFunc,_⟩=>decide (k=k')
   | _,_=>false)
 | _=>false
theorem xY(bZ:eu P tt){ty k}(h:F8 tt ty k=true):∃kt e,P.underlying ty=some (.map kt e)/\P.underlying kt=some (.int k)/\(∀w,(zeroValue e).run P w=.ok .nilFunc w):=by
 unfold F8 at h;split at h
 .rename_i kt e _ _ _ _ h1;split at h
  .rename_i h2 h3;have hk:=of_decide_eq_true h;subst hk;exact⟨kt,e,(bZ.get h1).und,(bZ.get h2).und,(bZ.get h3).zero _ rfl⟩
  .cases h
 .cases h
theorem CP(f:Cell->Value)x:∀l,oV (l.map fun p=>(p.1,f p.2)) x=(oV l x).map f
 | []=>rfl
 | (i,y)::l=>by
  rw[List.map_cons];unfold oV;split
  .rfl
  .exact CP f x l
theorem JX(f:Cell->Value)x c:∀l,((qX l x c).map fun p=>(p.1,f p.2))=qX (l.map fun p=>(p.1,f p.2)) x (f c)
 | []=>rfl
 | (i,y)::l=>by
  rw[List.map_cons];unfold qX;split
  .rfl
  .rw[List.map_cons,JX f x c l]
theorem NJ{k n x c}(h:c.lt n=true):∀{l},Item.lt n (.lm k l)=true->Item.lt n (.lm k (qX l x c))=true
 | [],_=>by simp[qX,Item.lt,h]
 | (i,y)::l,hl=>by
  simp only[Item.lt,List.all_cons,Bool.and_eq_true]at hl;have ih:=NJ (k:=k) (x:=x) (c:=c) h (l:=l) (by simp only[Item.lt];exact hl.2);unfold qX;split
  .simp only[Item.lt,List.all_cons,Bool.and_eq_true];exact⟨h,hl.2⟩
  .simp only[Item.lt,List.all_cons,Bool.and_eq_true]at ih |-;exact⟨hl.1,ih⟩
theorem YA k(how:its.any Item.ow=false){d:Option Nat}{t ty ps af g}:Eff P N n0 fx env its ⟨d,.makeMap ty none,t,ps,af,g⟩ (some (vm its.length)) (its++[.lm k []]):=fun κ w S a ha=>by
 have hC:=S.ctx.alloc (.map #[] 0);refine .inl ⟨.map (some w.heap.size),w.alloc (.map #[] 0),?_,[.m (some w.heap.size)],fun x hx=>?_,S.push how (it:=.lm k []) (c:=.m (some w.heap.size)) hC.1.rot hC.2.rot rfl ?_⟩
 .have hr:(Instr.makeMap ty none).run P w=.ok (.map (some w.heap.size)) (w.alloc (.map #[] 0)):=rfl;simp only[execOp,Option.map_none,hr,Sem.run_bind,Result.andThen_ok,Sem.run_pure]
 .injection hx with hx;subst hx;simp only[SV.den,Cell.den];rw[List.getElem?_append_right (by rw[S.len];exact Nat.le_refl _),S.len];simp
 .exact⟨_,rfl,#[],0,heap_alloc_new w _,rfl⟩
theorem Yz(bZ:eu P tt){d:Option Nat}{t ty ps af g x y q i k iv l c0 q0}
 (hx:jN env x=some (vm i)) (hi:its[i]?=some (.lm k l)) (hy:jN env y=some (vi k iv)) (hq:jN env q=some q0) (hq0:∀κ,q0.den κ=c0.den κ) (hjp:c0.lt its.length=true) (h1c:∀κ,(c0.den κ).oneCell'=true) (hT:F8 tt ty k=true) (how:its.any Item.ow=false) :
 Eff P N n0 fx env its ⟨d,.insert ty x y q,t,ps,af,g⟩ none (its.set i (.lm k (qX l iv c0))):=fun κ w S a ha=>by
 obtain⟨kt,te,h1,h2,_⟩:=xY bZ hT;obtain⟨cc,hcc,hok⟩:=S.iy hi;cases cc with
 | m b0=>
   simp only[OK]at hok;obtain⟨b,rfl,hm⟩:=hok;have hil:i<its.length:=(List.getElem?_eq_some_iff.1 hi).1;have hLb:(dL its κ)[i]?=some (some b):=bU hi hcc;have hr:RV (Mu fx.U0 (dL its κ)) w [c0.den κ] (c0.den κ):=⟨rfl,h1c κ⟩;obtain⟨es',c',hrun,agd⟩:=Sw (P:=P) (v:=c0.den κ) (x:=iv) hm h1 h2 hr;have hlt:=hm.lt;have hx':=eD (κ:=κ) hx;have hy':=eD (κ:=κ) hy;have hq':=eD (κ:=κ) hq;simp only[SV.den,Cell.den,hcc]at hx' hy';have hq':ev (fD κ env) q=some (c0.den κ):=hq'.trans (congrArg some (hq0 κ));refine .inr (.inl ⟨{w with heap:=w.heap.setIfInBounds b (.map es' c')},?_,[],⟨fun _ hz=>(by cases hz),?_⟩⟩)
   .simp only[execOp,ha.ev hx',ha.ev hy',ha.ev hq',hrun,Sem.run_bind,Result.andThen_ok,Sem.run_pure]
   .rw[List.append_nil];have hT2:=S.ctx.turn (w':={w with heap:=w.heap.setIfInBounds b (.map es' c')}) (y:=some b) (L':=dL its κ) hLb rfl rfl rfl (by simp) (fun j hj hne=>by
     show(w.heap.setIfInBounds b (.map es' c'))[j]?=w.heap[j]?;rw[Array.getElem?_setIfInBounds_ne fun e=>hne (by rw[e])]) (.inl rfl) (vX hLb)
    obtain⟨C,Tr⟩:=hT2;have hL:dL (its.set i (.lm k (qX l iv c0))) κ=dL its κ:=by
     apply List.ext_getElem?;intro j;by_cases hj:j=i
     .subst hj;have h3:(its.set j (.lm k (qX l iv c0)))[j]?=some (.lm k (qX l iv c0)):=by rw[List.getElem?_set_self hil]
      rw[bU h3 hcc,bU hi hcc];rfl
     .unfold dL;rw[List.getElem?_zipWith,List.getElem?_zipWith,List.getElem?_set_ne (fun e=>hj e.symm)]
    have key:=S.next (env':=env) (aR:=its.set i (.lm k (qX l iv c0))) (κx:=[]) (X:=[some b]) (fun j=>j=i) (by simp[S.len]) (by simpa using S.sj)
     (by
       unfold oP;rw[List.length_set,List.all_eq_true];intro it hit;have hs:=S.Fe;unfold oP at hs;rw[List.all_eq_true]at hs;rcases List.mem_or_eq_of_mem_set hit with h|h
       .exact hs _ h
       .subst h;refine NJ hjp ?_;exact hs _ (List.mem_of_getElem? hi))
     (by rw[List.append_nil,hL];exact C) (by rw[List.append_nil,hL];exact Tr)
     (fun j it hj hne hit=>by
       rw[List.getElem?_set_ne (fun e=>hne e.symm)]at hit;refine⟨hit,Hy how _ (List.mem_of_getElem? hit),fun c b' hc' hb' hm=>?_⟩;rw[List.mem_singleton]at hm;have h1:=bU hit hc';rw[hb']at h1;rw[hm]at h1;exact S.ctx.sep j i b hne h1 hLb)
     (fun j it c1 hj hit hc1=>by
       rw[List.append_nil]at hc1;rcases hj with hj|rfl
       .have:=(List.getElem?_eq_some_iff.1 hit).1;simp only[List.length_set]at this;omega
       .rw[List.getElem?_set_self hil]at hit;injection hit with hit;subst hit;rw[hcc]at hc1;injection hc1 with hc1;subst hc1;rw[List.append_nil,hL];exact⟨b,rfl,es',c',by simp[hlt],by rw[JX];exact kT.step Tr.h1 Tr.mono _ _ agd⟩)
    rw[List.append_nil]at key;exact key
 | _=>exact hok.elim
theorem oG(bZ:eu P tt){d:Option Nat}{t ty ps af g x y q i k iv l}{fn:Nat}
 (hx:jN env x=some (vm i)) (hi:its[i]?=some (.lm k l)) (hy:jN env y=some (vi k iv)) (hq:jN env q=some (.f fn [])) (hT:F8 tt ty k=true) (how:its.any Item.ow=false) :
 Eff P N n0 fx env its ⟨d,.insert ty x y q,t,ps,af,g⟩ none (its.set i (.lm k (qX l iv (cf fn)))):=Yz bZ hx hi hy hq (fun _=>rfl) rfl (fun _=>rfl) hT how
theorem zf{k U w b l t kt e x z}(h:EN k RV U w b l)(ht:P.underlying t=some (.map kt e))(hk:P.underlying kt=some (.int k))(hz:(zeroValue e).run P w=.ok z w) :
 (Instr.lookup t (.map (some b)) (.int k x) true).run P w=.ok (match oV l x with
   | some v=>.tuple #[v,.bool true]
   | none=>.tuple #[z,.bool false]) w:=by
 obtain⟨es,c,hh,he⟩:=h;have hI:MapKept.IsKey (.int k) (.int k x):=rfl;cases hg:oV l x with
 | none=>
   have h1:=kT.no l es.toList 0 he hg;simp[Instr.lookup,run_underlying ht,MapKept.run_getObj_map hh,MapKept.run_checkKey hk hI,MapKept.run_findKey hk h1,hz,Result.andThen]
 | some y=>
   obtain⟨j,e1,h1,h2,h3,h4,_⟩:=kT.at_ l es.toList 0 he hg;have h5:e1.val=y:=by
    have:=h4.1;simpa using this
   simp[Instr.lookup,run_underlying ht,MapKept.run_getObj_map hh,MapKept.run_checkKey hk hI,MapKept.run_findKey hk h1,Result.andThen,h5]
theorem acZ(bZ:eu P tt){d:Option Nat}{t ty ps af g x y i k iv l c}
 (hx:jN env x=some (vm i)) (hi:its[i]?=some (.lm k l)) (hy:jN env y=some (vi k iv)) (hT:F8 tt ty k=true) (hg:oV l iv=some c) :
 Eff P N n0 fx env its ⟨d,.lookup ty x y true,t,ps,af,g⟩ (some (.u [.inl c,.inl (cb true)])) its:=fun κ w S a ha=>by
 obtain⟨kt,te,h1,h2,h3⟩:=xY bZ hT;obtain⟨cc,hcc,hok⟩:=S.iy hi;cases cc with
 | m b0=>
   simp only[OK]at hok;obtain⟨b,rfl,hm⟩:=hok;have hx':=eD (κ:=κ) hx;have hy':=eD (κ:=κ) hy;simp only[SV.den,Cell.den,hcc]at hx' hy';have hrun:=zf (P:=P) (x:=iv) hm h1 h2 (h3 w);rw[CP (Cell.den κ),hg]at hrun;refine .inl ⟨.tuple #[c.den κ,.bool true],w,?_,[],fun z hz=>?_,by rw[List.append_nil];exact S⟩
   .simp only[execOp,ha.ev hx',ha.ev hy',hrun,Sem.run_bind,Result.andThen_ok,Sem.run_pure,Option.map_some]
   .injection hz with hz;subst hz;rw[List.append_nil];rfl
 | _=>exact hok.elim
theorem agz(bZ:eu P tt){d:Option Nat}{t ty ps af g x y i k iv l}
 (hx:jN env x=some (vm i)) (hi:its[i]?=some (.lm k l)) (hy:jN env y=some (vi k iv)) (hT:F8 tt ty k=true) (hg:oV l iv=none) :
 Eff P N n0 fx env its ⟨d,.lookup ty x y true,t,ps,af,g⟩ (some (.u [.inl (.v .nilFunc),.inl (cb false)])) its:=fun κ w S a ha=>by
 obtain⟨kt,te,h1,h2,h3⟩:=xY bZ hT;obtain⟨cc,hcc,hok⟩:=S.iy hi;cases cc with
 | m b0=>
   simp only[OK]at hok;obtain⟨b,rfl,hm⟩:=hok;have hx':=eD (κ:=κ) hx;have hy':=eD (κ:=κ) hy;simp only[SV.den,Cell.den,hcc]at hx' hy';have hrun:=zf (P:=P) (x:=iv) hm h1 h2 (h3 w);rw[CP (Cell.den κ),hg]at hrun;refine .inl ⟨.tuple #[.nilFunc,.bool false],w,?_,[],fun z hz=>?_,by rw[List.append_nil];exact S⟩
   .simp only[execOp,ha.ev hx',ha.ev hy',hrun,Sem.run_bind,Result.andThen_ok,Sem.run_pure,Option.map_none]
   .injection hz with hz;subst hz;rfl
 | _=>exact hok.elim
theorem Mc{C:Prop}{a b}(h:(a||b)=true)(f:a=true->C)(g:b=true->C):C:=by
 cases a with
 | true=>exact f rfl
 | false=>exact g h
theorem kY{x a b:Int}(h:(x==a)=true)(h2:(a==b)=false):(x==b)=false:=by rw[eq_of_beq h];exact h2
theorem Cy{a b}(h:(a||b)=false):a=false:=by cases a<;>cases b<;>simp_all
theorem iG{a b}(h:(a||b)=false):b=false:=by cases a<;>cases b<;>simp_all
theorem zn{l x y}{c:Cell}(h:x=y)(h2:oV l y=some c):oV l x=some c:=by rw[h,h2]
theorem oz{l x y}{c:Cell}(h:(x==y)=false)(h2:oV l x=none):oV ((y,c)::l) x=none:=by
 unfold oV;rw[if_neg (by rw[h];decide)];exact h2
end
end V
end Go.Proofs.YtbgfhaahhdnogaaGreat
