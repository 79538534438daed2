/- Glue for walks that are wn by program: cuts, loops' end -/
import Derived.Test.YtbgfhaahhdnogaaGreatAct
namespace Go.Proofs.YtbgfhaahhdnogaaGreat
namespace V
theorem gy{α:Type}{c x y}{q:α}(h:(if c=true then x else y)=some q)(hc:c=true):x=some q:=by rw[if_pos hc]at h;exact h
theorem dU{α:Type}{c x y}{q:α}(h:(if c=true then x else y)=some q)(hc:c=false):y=some q:=by rw[if_neg (by simp[hc])]at h;exact h
theorem sI{α:Type}{x q:α}(h:some x=some q):x=q:=by injection h
theorem nI{S O body n s}{q:Out S O}{o}(h:some (Out.next s)=some q)(hs:(∃s',q=.next s'/\iter body n s'=some o)\/q=.done o):iter body n s=some o:=by
 injection h with h;subst h;rcases hs with⟨s',h,h2⟩|h
 .injection h with h;subst h;exact h2
 .cases h
theorem dI{S O body n q o o'}(h:some (Out.done o':Out S O)=some q)(hs:(∃s',q=.next s'/\iter body n s'=some o)\/q=.done o):o=o':=by
 injection h with h;subst h;rcases hs with⟨s',h,h2⟩|h
 .cases h
 .injection h with h;exact h.symm
section
variable {P:Program} {px:Value->World->Prop} {Kn:Act->World->Prop} {Ke:Nat->Act->World->Prop} {Kr:Act->World->Prop} {N:Nat} {l:Env} {w:World} {ops:Array Oper} {rest:List Oper}
theorem WC.pY{y i DJ Wd}(he:Ke i=fun a w=>IL P px y DJ Wd Kr a w)(h:WC P px y DJ Wd Kr N l w):WC P px (.exit i) Kn Ke Kr N l w:=
 WC.exit fun a ha=>by rw[he];exact h a ha
theorem WC.xJ{i J}(he:Ke i=J)(h:∀a,Holds N l a->J a w):WC P px (.exit i) Kn Ke Kr N l w:=
 WC.exit fun a ha=>by rw[he];exact h a ha
theorem WL.cutAt k J(h1:WL P px ops (rest.take k) J N l w)(h2:∀a w,J a w->wpList P ops (QN px Kn) (rest.drop k) a w):WL P px ops rest Kn N l w:=by
 have:=WL.cut J h1 h2;rwa [List.take_append_drop]at this
end
section
variable {α:Type} {U0:Nat->Prop} {X0 X:List (Option Nat)} {w0 w w':World} {L L' L2 Lc R:List (Option Nat)}
theorem Ctx.lt(C:Ctx U0 X0 w0 L w):∀b,Mu U0 L b->b<w.heap.size:=fun b h=>by
 rcases h with h|h
 .exact Nat.lt_of_lt_of_le (C.u0 b h) C.step.size
 .exact(C.live b h).1
theorem Ctx.join(C:Ctx U0 X0 w0 L w)(D:Ctx (Mu U0 L') Lc w R w')(is js:List Nat)(hn:is.Nodup)(hL:is.map (fun i=>(L[i]?).join)=L2)(hc:js.map (fun i=>(L[i]?).join)=Lc)(hd:∀i∈is,i∉js):Ctx U0 X0 w0 (R++L2) w'/\TR U0 L w (R++L2) w' Lc:=by
 have C2:=C.pick is hn hL;have hsub:=wO is hL;have hcin:=wO js hc;have hnew:∀b,some b∈R->b<w'.heap.size/\(w.heap.size<=b\/some b∈Lc):=fun b hb=>by
  obtain⟨h1,_,h3⟩:=D.live b hb;exact⟨h1,h3⟩
 refine⟨⟨⟨D.step.os.trans C.step.os,D.step.tape.trans C.step.tape,D.step.output.trans C.step.output,Nat.le_trans C.step.size D.step.size,fun b hb hX=>?_⟩,C.u0,fun b hb=>?_,fun i j b hij hi hj=>?_⟩,⟨D.step.size,fun b hb hX=>D.step.block b hb hX,hcin,fun b hb hM=>?_⟩⟩
 .refine(D.step.block b (Nat.lt_of_lt_of_le hb C.step.size) fun hm=>?_).trans (C.step.block b hb hX);rcases(C.live b (hcin b hm)).2.2 with h|h
  .omega
  .exact hX h
 .rcases List.mem_append.1 hb with hb|hb
  .obtain⟨h1,h2⟩:=hnew b hb;have:=C.step.size;rcases h2 with h2|h2
   .exact⟨h1,fun hU=>by have:=C.u0 b hU;omega,.inl (by omega)⟩
   .obtain⟨_,h4,h5⟩:=C.live b (hcin b h2);exact⟨h1,h4,h5⟩
  .obtain⟨h1,h2,h3⟩:=C2.live b hb;exact⟨Nat.lt_of_lt_of_le h1 D.step.size,h2,h3⟩
 .have hsplit:∀k,(R++L2)[k]?=some (some b)->(k<R.length/\R[k]?=some (some b))\/(R.length<=k/\L2[k-R.length]?=some (some b)):=fun k hk=>by
   rcases Nat.lt_or_ge k R.length with h|h
   .rw[List.getElem?_append_left h]at hk;exact .inl ⟨h,hk⟩
   .rw[List.getElem?_append_right h]at hk;exact .inr ⟨h,hk⟩
  have cross:∀p q,R[p]?=some (some b)->L2[q]?=some (some b)->False:=fun p q hp hq=>by
   have h1:=hnew b (List.mem_of_getElem? hp);have h2:=C2.live b (List.mem_of_getElem? hq);rcases h1.2 with h3|h3
   .omega
   .obtain⟨k,h4,h5⟩:=sQ is hL q b hq;exact C.ne h5 js hc (hd k (List.mem_of_getElem? h4)) b rfl h3
  rcases hsplit i hi with⟨a1,a2⟩|⟨a1,a2⟩<;>rcases hsplit j hj with⟨b1,b2⟩|⟨b1,b2⟩
  .exact D.sep i j b hij a2 b2
  .exact cross _ _ a2 b2
  .exact cross _ _ b2 a2
  .exact C2.sep (i-R.length) (j-R.length) b (by omega) a2 b2
 .rcases hM with hU|hm
  .exact .inl hU
  .rcases List.mem_append.1 hm with h|h
   .have:=hnew b h;rcases this.2 with h3|h3
    .omega
    .exact .inr (hcin b h3)
   .exact .inr (hsub b h)
theorem Sl.mu{sz}{R:RT α}[dM R]{U U' A c d}(h:Sl sz R U w A c d)(hm:∀b,U' b->U b):Sl sz R U' w A c d:=h.step (fun _ _ _=>rfl) (fun b _=>hm b)
theorem At.mu{U U' ad es}(h:At U w ad es)(hm:∀b,U' b->U b):At U' w ad es:=⟨fun hU=>h.1 (hm _ hU),h.2⟩
theorem Own.mu{sz E}{R:RT α}[dM R]{U U' A c d}(h:Own sz E R U w A c d)(hm:∀b,U' b->U b):Own sz E R U' w A c d:=by
 obtain⟨xs,h1,h2⟩:=h;exact⟨xs,h1,fJ.step (fun _ _ _=>rfl) (fun b _=>hm b) _ _ h2⟩
theorem Rep.mu{R}[dM R]{U U' cs}{d:α}(h:R U w cs d)(hm:∀b,U' b->U b):R U' w cs d:=dM.step h (fun _ _ _=>rfl) (fun b _=>hm b)
end
section
variable {P:Program} {px:Value->World->Prop} {Kn:Act->World->Prop} {Ke:Nat->Act->World->Prop} {Kr:Act->World->Prop} {N:Nat} {l l':Env} {w:World}
theorem WC.prune{c}(hs:Sub l l')(h:WC P px c Kn Ke Kr N l' w):WC P px c Kn Ke Kr N l w:=fun a ha=>h a (ha.sub hs)
end
section
variable {P:Program} {px:Value->World->Prop} {ops:Array Oper} {rest:List Oper} {Kn:Act->World->Prop} {N:Nat} {l l':Env} {w:World} {t:TypeId} {ps:String} {af:Array Edge}
theorem WL.prune(hs:Sub l l')(h:WL P px ops rest Kn N l' w):WL P px ops rest Kn N l w:=fun a ha=>h a (ha.sub hs)
end
section
variable {P:Program} {px:Value->World->Prop} {ops:Array Oper} {rest:List Oper} {Kn:Act->World->Prop} {N:Nat} {l:Env} {w:World} {d:Nat} {t:TypeId} {ps:String} {af:Array Edge} {α:Type}
theorem Pn{ty mF x y s u a b g}{o:Option Nat}(ha:strOf s=a)(hb:strOf u=b)(hx:ev l x=some (.string s))(hy:ev l y=some (.string u)):dQ P N l ⟨o,.binOp .eql ty x y mF,t,ps,af,g⟩ w (.bool (a==b)):=by
 subst ha;subst hb;exact Xh hx hy
theorem Pg{ty mF x y s u a b g}{o:Option Nat}(ha:strOf s=a)(hb:strOf u=b)(hx:ev l x=some (.string s))(hy:ev l y=some (.string u)):dQ P N l ⟨o,.binOp .neq ty x y mF,t,ps,af,g⟩ w (.bool (a != b)):=by
 subst ha;subst hb;exact Xd hx hy
theorem Yj{k l i x}(h:idx l i=some x):idx (l.map (Value.int k)) i=some (.int k x):=by
 unfold idx at h |-;split at h
 .rename_i h0;rw[if_pos h0,List.getElem?_map,h];rfl
 .cases h
theorem WL.Ws{op}{j:Nat}{b}{s:Nat}(hj:(ops[j]?).bind (·.dst)=some s)(hs:lk s l=some undef)(hd:Nat.blt d N=true)
 (h:WL P px ops rest Kn N ((d,undef)::l) w):WL P px ops (⟨some d,op,t,ps,af,some (j,b)⟩::rest) Kn N l w:=fun a ha=>by
 have hy:yielded ops a.tmps j=none:=by
  unfold yielded;rw[hj];simp[ha.get s _ hs,undef]
 unfold wpList;rw[if_neg (by simp[Region.wanted,hy])];exact h _ (ha.put hd)
end
end V
end Go.Proofs.YtbgfhaahhdnogaaGreat
