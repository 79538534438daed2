/- Glue for walks that are written by program: cuts, loops' end -/
import Derived.Test.YtbdhonofhlpdoaaDoorAct
namespace Go.Proofs.YtbdhonofhlpdoaaDoor
namespace V
theorem if_t {α:Type} {c:Bool} {x y:Option α} {q:α} (h:(if c=true then x else y)=some q) (hc:c=true):x=some q:=by rw [if_pos hc] at h; exact h
theorem if_f {α:Type} {c:Bool} {x y:Option α} {q:α} (h:(if c=true then x else y)=some q) (hc:c=false):y=some q:=by rw [if_neg (by simp [hc])] at h; exact h
theorem some_inv {α:Type} {x q:α} (h:some x=some q):q=x:=by injection h with h; exact h.symm
theorem some_inv' {α:Type} {x q:α} (h:some x=some q):x=q:=by injection h
theorem pop_inv {β γ:Type} {K:β→Option γ} {o o':β} {q:γ} (ho:o=o') (h:K o=some q):K o'=some q:=ho▸h
theorem next_inv {S O:Type} {body:S→Option (Out S O)} {n:Nat} {s:S} {q:Out S O} {o:O} (h:some (Out.next s)=some q) (hs:(∃s',q = .next s'∧iter body n s'=some o)∨q = .done o):iter body n s=some o:=by
  injection h with h
  subst h
  rcases hs with ⟨s',h,h2⟩ | h
  · injection h with h
    subst h
    exact h2
  · cases h
theorem done_inv {S O:Type} {body:S→Option (Out S O)} {n:Nat} {q:Out S O} {o o':O} (h:some (Out.done o':Out S O)=some q) (hs:(∃s',q = .next s'∧iter body n s'=some o)∨q = .done o):o=o':=by
  injection h with h
  subst h
  rcases hs with ⟨s',h,h2⟩ | h
  · cases h
  · injection h with h; exact h.symm
theorem and_t {e x:Bool} (h:e=true):some (Value.bool x)=some (Value.bool (e&&x)):=by subst h; rfl
theorem and_f {e x:Bool} (h:e=false):some (Value.bool false)=some (Value.bool (e&&x)):=by subst h; rfl
theorem or_t {e x:Bool} (h:e=true):some (Value.bool true)=some (Value.bool (e||x)):=by subst h; rfl
theorem or_f {e x:Bool} (h:e=false):some (Value.bool x)=some (Value.bool (e||x)):=by subst h; rfl
section
variable {P:Program} {px:Value→World→Prop} {Kn:Act→World→Prop} {Ke:Nat→Act→World→Prop} {Kr:Act→World→Prop} {N:Nat} {l:Env} {w:World} {ops:Array Oper} {rest:List Oper}
theorem WC.exitThen {y:Code} {i:Nat} {Kn':Act→World→Prop} {Ke':Nat→Act→World→Prop} (he:Ke i=fun a w=>wp3 P px y Kn' Ke' Kr a w) (h:WC P px y Kn' Ke' Kr N l w):WC P px (.exit i) Kn Ke Kr N l w:=
  WC.exit fun a ha=>by rw [he]; exact h a ha
theorem WC.exitJ {i:Nat} {J:Act→World→Prop} (he:Ke i=J) (h:∀a,Holds N l a→J a w):WC P px (.exit i) Kn Ke Kr N l w:=
  WC.exit fun a ha=>by rw [he]; exact h a ha
theorem WL.cutAt (k:Nat) (J:Act→World→Prop) (h1:WL P px ops (rest.take k) J N l w) (h2:∀a w,J a w→wpList P ops (QN px Kn) (rest.drop k) a w):WL P px ops rest Kn N l w:=by
  have:=WL.cut J h1 h2
  rwa [List.take_append_drop] at this
end
section
variable {α:Type} {U0:Nat→Prop} {X0 X:List (Option Nat)} {w0 w w':World} {L L' L2 Lc R:List (Option Nat)}
theorem Ctx.lt (C:Ctx U0 X0 w0 L w):∀b,Mu U0 L b→b<w.heap.size:=fun b h=>by
  rcases h with h | h
  · exact Nat.lt_of_lt_of_le (C.u0 b h) C.step.size
  · exact (C.live b h).1
theorem Ctx.give (C:Ctx U0 X0 w0 L w) (is js:List Nat) (hn:js.Nodup) (hL:is.map (fun i=>(L[i]?).join)=L') (hc:js.map (fun i=>(L[i]?).join)=Lc) (hd:∀i∈js,i∉is):Ctx (Mu U0 L') Lc w Lc w:=by
  refine ⟨Step.refl,fun b hb=>C.lt b (Mu.weaken (mem_pick is hL) b hb),fun b hb=>⟨(C.live b (mem_pick js hc b hb)).1,?_,.inr hb⟩,(C.pick js hn hc).sep⟩
  obtain⟨k,hk⟩:=List.getElem?_of_mem hb
  obtain⟨i,h1,h2⟩:=pick_get js hc k b hk
  exact C.off h2 is hL (hd i (List.mem_of_getElem? h1)) b rfl
theorem Ctx.join (C:Ctx U0 X0 w0 L w) (D:Ctx (Mu U0 L') Lc w R w') (is js:List Nat) (hn:is.Nodup) (hL:is.map (fun i=>(L[i]?).join)=L2) (hc:js.map (fun i=>(L[i]?).join)=Lc) (hd:∀i∈is,i∉js):Ctx U0 X0 w0 (R++L2) w'∧TR U0 L w (R++L2) w' Lc:=by
  have C2:=C.pick is hn hL
  have hsub:=mem_pick is hL
  have hcin:=mem_pick js hc
  have hnew:∀b,some b∈R→b<w'.heap.size∧(w.heap.size≤b∨some b∈Lc):=fun b hb=>by
    obtain⟨h1,_,h3⟩:=D.live b hb
    exact⟨h1,h3⟩
  refine ⟨⟨⟨D.step.os.trans C.step.os,D.step.tape.trans C.step.tape,D.step.output.trans C.step.output,Nat.le_trans C.step.size D.step.size,fun b hb hX=>?_⟩,C.u0,fun b hb=>?_,fun i j b hij hi hj=>?_⟩,⟨D.step.size,fun b hb hX=>D.step.block b hb hX,hcin,fun b hb hM=>?_⟩⟩
  · refine (D.step.block b (Nat.lt_of_lt_of_le hb C.step.size) fun hm=>?_).trans (C.step.block b hb hX)
    rcases (C.live b (hcin b hm)).2.2 with h | h
    · omega
    · exact hX h
  · rcases List.mem_append.1 hb with hb | hb
    · obtain⟨h1,h2⟩:=hnew b hb
      have:=C.step.size
      rcases h2 with h2 | h2
      · exact⟨h1,fun hU=>by have:=C.u0 b hU; omega,.inl (by omega)⟩
      · obtain⟨_,h4,h5⟩:=C.live b (hcin b h2)
        exact⟨h1,h4,h5⟩
    · obtain⟨h1,h2,h3⟩:=C2.live b hb
      exact⟨Nat.lt_of_lt_of_le h1 D.step.size,h2,h3⟩
  · have hsplit:∀k,(R++L2)[k]? = some (some b)→(k<R.length∧R[k]? = some (some b))∨(R.length≤k∧L2[k - R.length]? = some (some b)):=fun k hk=>by
      rcases Nat.lt_or_ge k R.length with h | h
      · rw [List.getElem?_append_left h] at hk; exact .inl ⟨h,hk⟩
      · rw [List.getElem?_append_right h] at hk; exact .inr ⟨h,hk⟩
    have cross:∀p q,R[p]? = some (some b)→L2[q]? = some (some b)→False:=fun p q hp hq=>by
      have h1:=hnew b (List.mem_of_getElem? hp)
      have h2:=C2.live b (List.mem_of_getElem? hq)
      rcases h1.2 with h3 | h3
      · omega
      · obtain⟨k,h4,h5⟩:=pick_get is hL q b hq
        exact C.ne h5 js hc (hd k (List.mem_of_getElem? h4)) b rfl h3
    rcases hsplit i hi with ⟨a1,a2⟩ | ⟨a1,a2⟩ <;> rcases hsplit j hj with ⟨b1,b2⟩ | ⟨b1,b2⟩
    · exact D.sep i j b hij a2 b2
    · exact cross _ _ a2 b2
    · exact cross _ _ b2 a2
    · exact C2.sep (i - R.length) (j - R.length) b (by omega) a2 b2
  · rcases hM with hU | hm
    · exact .inl hU
    · rcases List.mem_append.1 hm with h | h
      · have:=hnew b h
        rcases this.2 with h3 | h3
        · omega
        · exact .inr (hcin b h3)
      · exact .inr (hsub b h)
theorem mu_give (is js:List Nat) (hL:is.map (fun i=>(L[i]?).join)=L') (hc:js.map (fun i=>(L[i]?).join)=Lc):∀b,Mu (Mu U0 L') Lc b→Mu U0 L b:=fun b hb=>by
  rcases hb with hb | hb
  · exact Mu.weaken (mem_pick is hL) b hb
  · exact .inr (mem_pick js hc b hb)
theorem mu_split {b:Nat} (h:Mu (Mu U0 L') Lc b):Mu U0 (Lc++L') b:=by
  rcases h with (h | h) | h
  · exact .inl h
  · exact .inr (List.mem_append.2 (.inr h))
  · exact .inr (List.mem_append.2 (.inl h))
theorem mu_join (h:∀b,some b∈L2→some b∈L'):∀b,Mu U0 (R++L2) b→Mu (Mu U0 L') R b:=fun b hb=>by
  rcases hb with hb | hb
  · exact .inl (.inl hb)
  · rcases List.mem_append.1 hb with hb | hb
    · exact .inr hb
    · exact .inl (.inr (h b hb))
theorem Sl.mu {sz:Nat} {R:RT α} [GRep R] {U U':Nat→Prop} {A:Option Addr} {c:Nat} {d:List α} (h:Sl sz R U w A c d) (hm:∀b,U' b→U b):Sl sz R U' w A c d:=h.step (fun _ _ _=>rfl) (fun b _=>hm b)
theorem At.mu {U U':Nat→Prop} {ad:Addr} {es:List Value} (h:At U w ad es) (hm:∀b,U' b→U b):At U' w ad es:=⟨fun hU=>h.1 (hm _ hU),h.2⟩
theorem Own.mu {sz:Nat} {E:TypeId} {R:RT α} [GRep R] {U U':Nat→Prop} {A:Option Addr} {c:Nat} {d:List α} (h:Own sz E R U w A c d) (hm:∀b,U' b→U b):Own sz E R U' w A c d:=by
  obtain⟨xs,h1,h2⟩:=h
  exact⟨xs,h1,Els.step (fun _ _ _=>rfl) (fun b _=>hm b) _ _ h2⟩
theorem Rep.mu {R:RT α} [GRep R] {U U':Nat→Prop} {cs:List Value} {d:α} (h:R U w cs d) (hm:∀b,U' b→U b):R U' w cs d:=GRep.step h (fun _ _ _=>rfl) (fun b _=>hm b)
theorem Own.ints {sz:Nat} {E:TypeId} {k:IntKind} {U U':Nat→Prop} {A:Option Addr} {c:Nat} {d:List Int} (h:Own sz E (RInt k) U w A c d):Own sz E (RInt k) U' w A c d:=by
  obtain⟨xs,h1,h2⟩:=h
  have key:∀(l:List Int) (es:List Value),Els sz (RInt k) U w es l→Els sz (RInt k) U' w es l:=by
    intro l
    induction l with
    | nil=>intro es h; exact h
    | cons x xs ih=>
      intro es h
      obtain⟨e1,e2,a,b,c,d⟩:=h
      exact⟨e1,e2,a,b,c,ih e2 d⟩
  exact⟨xs,h1,key _ _ h2⟩
theorem mu_nil:∀b,Mu U0 [] b→U0 b:=fun b h=>h.elim id (fun h=>by simp at h)
theorem mu_nil':∀b,U0 b→Mu U0 [] b:=fun _ h=>.inl h
end
section
variable {P:Program} {px:Value→World→Prop} {Kn:Act→World→Prop} {Ke:Nat→Act→World→Prop} {Kr:Act→World→Prop} {N:Nat} {l l':Env} {w:World}
theorem WC.prune {c:Code} (hs:Sub l l') (h:WC P px c Kn Ke Kr N l' w):WC P px c Kn Ke Kr N l w:=fun a ha=>h a (ha.sub hs)
end
section
variable {P:Program} {px:Value→World→Prop} {ops:Array Oper} {rest:List Oper} {Kn:Act→World→Prop} {N:Nat} {l l':Env} {w:World} {t:TypeId} {ps:String} {af:Array Edge}
theorem WL.prune (hs:Sub l l') (h:WL P px ops rest Kn N l' w):WL P px ops rest Kn N l w:=fun a ha=>h a (ha.sub hs)
theorem WL.world0 {op:Op} {K:Value→World→Prop} (hr:RunW P N l ⟨none,op,t,ps,af,none⟩ w K)
    (h:∀v w',K v w'→WL P px ops rest Kn N l w'):WL P px ops (⟨none,op,t,ps,af,none⟩::rest) Kn N l w:=fun a ha=>
  wpList_plain rfl fun K' hK=>by
    obtain⟨v,w',h1,h2⟩:=hr a ha
    unfold Oper.wp
    rw [h1]
    exact hK _ _ (h v w' h2 _ ha)
end
section
variable {P:Program} {px:Value→World→Prop} {ops:Array Oper} {rest:List Oper} {Kn:Act→World→Prop} {N:Nat} {l:Env} {w:World} {d:Nat} {t:TypeId} {ps:String} {af:Array Edge} {α:Type}
theorem WL.ixSl {ty E:TypeId} {sz:Nat} {x y:Operand} {k:IntKind} {iv:Int} {R:RT α} {U:Nat→Prop} {A:Option Addr} {c:Nat} {dt:List α} {e:α} (hu:P.underlying ty=some (.slice E)) (hs:∀w,(sizeOf E).run P w = .ok sz w) (hpos:Nat.blt 0 sz=true)
    (hx:ev l x=some (.slice A dt.length c)) (hy:ev l y=some (.int k iv)) (h:Sl sz R U w A c dt) (hi:idx dt iv=some e) (hd:Nat.blt d N=true)
    (hn:∀ad es,At U w ad es→es.length=sz→R U w es e→WL P px ops rest Kn N ((d,.pointer (some ad))::l) w):WL P px ops (⟨some d,.indexAddr ty x y,t,ps,af,none⟩::rest) Kn N l w:=by
  obtain⟨ad,es,hrv,hat,hl,hr⟩:=ix_sl (P:=P) (N:=N) hu hs hpos hx hy h hi
  exact WL.val hrv hd (hn ad es hat hl hr)
theorem WL.ixOwn {ty E:TypeId} {sz:Nat} {x y:Operand} {k:IntKind} {iv:Int} {R:RT α} {U:Nat→Prop} {A:Option Addr} {c:Nat} {dt:List α} {e:α} (hu:P.underlying ty=some (.slice E)) (hs:∀w,(sizeOf E).run P w = .ok sz w)
    (hx:ev l x=some (.slice A dt.length c)) (hy:ev l y=some (.int k iv)) (h:Own sz E R U w A c dt) (hi:idx dt iv=some e) (hd:Nat.blt d N=true)
    (hn:∀ad es,At (fun _=>False) w ad es→es.length=sz→R U w es e→WL P px ops rest Kn N ((d,.pointer (some ad))::l) w):WL P px ops (⟨some d,.indexAddr ty x y,t,ps,af,none⟩::rest) Kn N l w:=by
  obtain⟨b,o,es,_,hrv,hat,hl,hr⟩:=ix_own (P:=P) (N:=N) hu hs hx hy h hi
  exact WL.val hrv hd (hn _ es hat hl hr)
theorem WL.ixUpd {ty E:TypeId} {sz:Nat} {x y:Operand} {k:IntKind} {iv:Int} {R:RT α} {U:Nat→Prop} {A:Option Addr} {c:Nat} {dt dt':List α} {e:α} (hu:P.underlying ty=some (.slice E)) (hs:∀w,(sizeOf E).run P w = .ok sz w)
    (hx:ev l x=some (.slice A dt.length c)) (hy:ev l y=some (.int k iv)) (h:Own sz E R U w A c dt) (hi:upd dt iv e=some dt') (hd:Nat.blt d N=true)
    (hn:∀b o,A=some ⟨b,o,none⟩→WL P px ops rest Kn N ((d,.pointer (some ⟨b,o+iv.toNat * sz,none⟩))::l) w):WL P px ops (⟨some d,.indexAddr ty x y,t,ps,af,none⟩::rest) Kn N l w:=by
  obtain⟨b,o,hA,hrv⟩:=ix_upd (P:=P) (N:=N) hu hs hx hy h hi
  exact WL.val hrv hd (hn b o hA)
theorem WL.subSl {ty E:TypeId} {sz:Nat} {x:Operand} {lo hi:Option Operand} {lov hiv:Option Value} {a b:Int} {R:RT α} {U:Nat→Prop} {A:Option Addr} {c:Nat} {dt dt':List α} (hu:P.underlying ty=some (.slice E)) (hs:∀w,(sizeOf E).run P w = .ok sz w)
    (hx:ev l x=some (.slice A dt.length c)) (hlo:lo.mapM (ev l)=some lov) (hhi:hi.mapM (ev l)=some hiv) (hla:(lov=none∧a=0)∨∃k,lov=some (.int k a)) (hlb:(hiv=none∧b=len dt)∨∃k,hiv=some (.int k b))
    (h:Sl sz R U w A c dt) (hsub:sub dt a b=some dt') (hd:Nat.blt d N=true)
    (hn:∀A' c',Sl sz R U w A' c' dt'→WL P px ops rest Kn N ((d,.slice A' dt'.length c')::l) w):WL P px ops (⟨some d,.slice ty x lo hi none,t,ps,af,none⟩::rest) Kn N l w:=by
  obtain⟨A',c',hrv,hs'⟩:=sl_sub (P:=P) (N:=N) hu hs hx hlo hhi hla hlb h hsub
  exact WL.val hrv hd (hn A' c' hs')
theorem WL.b2s {src dst E:TypeId} {x:Operand} {U:Nat→Prop} {A:Option Addr} {c n:Nat} {dt:List Int} (hu:P.underlying src=some (.slice E)) (hE:P.underlying E=some (.int .u8)) (hds:P.underlying dst=some .string) (hx:ev l x=some (.slice A n c)) (hn:n=dt.length) (h:Src 1 (RInt .u8) U w A dt) (hd:Nat.blt d N=true)
    (hk:∀s,strOf s=str dt→WL P px ops rest Kn N ((d,.string s)::l) w):WL P px ops (⟨some d,.convert src dst x,t,ps,af,none⟩::rest) Kn N l w:=by
  obtain⟨s,hrv,hs⟩:=rv_b2s (P:=P) (N:=N) (d:=some d) (t:=t) (ps:=ps) (af:=af) (g:=none) hu hE hds hx hn h
  exact WL.val hrv hd (hk s hs)
theorem rv_eqlss' {ty ty2:TypeId} {x y:Operand} {s u:ByteArray} {a b:List Int} {g:Option (Nat×Bool)} {o:Option Nat} (ha:strOf s=a) (hb:strOf u=b) (hx:ev l x=some (.string s)) (hy:ev l y=some (.string u)):RunV P N l ⟨o,.binOp .eql ty x y ty2,t,ps,af,g⟩ w (.bool (a == b)):=by
  subst ha; subst hb
  exact rv_eqls hx hy
theorem rv_neqss' {ty ty2:TypeId} {x y:Operand} {s u:ByteArray} {a b:List Int} {g:Option (Nat×Bool)} {o:Option Nat} (ha:strOf s=a) (hb:strOf u=b) (hx:ev l x=some (.string s)) (hy:ev l y=some (.string u)):RunV P N l ⟨o,.binOp .neq ty x y ty2,t,ps,af,g⟩ w (.bool (a != b)):=by
  subst ha; subst hb
  exact rv_neqs hx hy
theorem idx_map {k:IntKind} {l:List Int} {i x:Int} (h:idx l i=some x):idx (l.map (Value.int k)) i=some (.int k x):=by
  unfold idx at h ⊢
  split at h
  · rename_i h0
    rw [if_pos h0,List.getElem?_map,h]
    rfl
  · cases h
theorem strOf_mk (l:List UInt8) (e:List Int) (h:l.map (fun b=>(b.toNat:Int))=e):strOf ⟨l.toArray⟩=e:=by
  subst h
  simp [strOf]
theorem WL.noU {op:Op} {j:Nat} {b:Bool} {s:Nat} (hj:(ops[j]?).bind (·.dst)=some s) (hs:lk s l=some undef) (hd:Nat.blt d N=true)
    (h:WL P px ops rest Kn N ((d,undef)::l) w):WL P px ops (⟨some d,op,t,ps,af,some (j,b)⟩::rest) Kn N l w:=fun a ha=>by
  have hy:yielded ops a.tmps j=none:=by
    unfold yielded
    rw [hj]
    simp [ha.get s _ hs,undef]
  unfold wpList
  rw [if_neg (by simp [Region.wanted,hy])]
  exact h _ (ha.put hd)
end
end V
end Go.Proofs.YtbdhonofhlpdoaaDoor
