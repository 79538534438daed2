/- Statements that leave their order open: what reads only is t -/
import Derived.Test.YtoahakdkgefgiaaGreatGlue
namespace Go.Proofs.YtoahakdkgefgiaaGreat
namespace V
section
variable {P:Program} {px:Value→World→Prop} {ops:Array Oper} {Kn:Act→World→Prop} {S:World→Prop} {fuel N:Nat} {bs:List Bool} {l:Env} {w:World}
def WA (P:Program) (px:Value→World→Prop) (ops:Array Oper) (Kn:Act→World→Prop) (S:World→Prop) (fuel:Nat) (bs:List Bool) (N:Nat) (l:Env) (w:World):Prop:=
  ∀a,Holds N l a→wpAnyH P .any ops (QN px Kn) S fuel bs.toArray a w
def WS (P:Program) (px:Value→World→Prop) (ops:Array Oper) (Kn:Act→World→Prop) (S:World→Prop) (fuel:Nat) (bs:List Bool) (N:Nat) (l:Env) (w:World) (i:Nat):Prop:=
  ∀a,Holds N l a→wpOp P ops (QN px Kn) i (fun a' w'=>S w'∧wpAnyH P .any ops (QN px Kn) S fuel (bs.toArray.setIfInBounds i true) a' w') a w
theorem WC.draw {Ke:Nat→Act→World→Prop} {Kr:Act→World→Prop} {id:Nat} {os:List Oper} {U0:Nat→Prop} {X0:List (Option Nat)} {w0:World} {L:List (Option Nat)} (S:World→Prop) (hm:P.follows .mixedOrders=true) (C:Ctx U0 X0 w0 L w)
    (h:∀w',Ctx U0 X0 w0 L w'→TR U0 L w L w' []→WA P px os.toArray Kn S os.length (List.replicate os.length false) N l w'):WC P px (.region id os.toArray true) Kn Ke Kr N l w:=fun a ha=>by
  have h1:=h _ C.drew.1 C.drew.2 a ha
  have h2:=wp_region_held (id:=id) (a:=a) (w:=w) hm (by rw [show os.toArray.size=os.length from rfl,← List.toArray_replicate]; exact h1)
  refine wp_mono h2 fun e a w hq=>?_
  rcases hq with ⟨rfl,hq⟩ | ⟨v,rfl,hq⟩
  · exact hq
  · exact⟨v,rfl,hq⟩
theorem WA.done (hr:Region.ready .any ops bs.toArray=[]) (h:∀a,Holds N l a→Kn a w):WA P px ops Kn S fuel bs N l w:=fun a ha=>
  wpAnyH_done hr (.inl ⟨rfl,h a ha⟩) fuel
theorem WA.doneThen {y:Code} {Kn':Act→World→Prop} {Ke:Nat→Act→World→Prop} {Kr:Act→World→Prop} (hr:Region.ready .any ops bs.toArray=[]) (h:WC P px y Kn' Ke Kr N l w):WA P px ops (fun a w=>wp3 P px y Kn' Ke Kr a w) S fuel bs N l w:=fun a ha=>
  wpAnyH_done hr (.inl ⟨rfl,h a ha⟩) fuel
theorem WA.takeAny {i d:Nat} {oi:Oper} {v:Value} {bs':List Bool} (hi:ops[i]? = some oi) (hd:oi.dst=some d) (hs:Region.noSelect ops=true) (hf:Region.free .any ops bs.toArray i=true) (hr:(Region.ready .any ops bs.toArray).contains i=true)
    (hy:∀a,Holds N l a→YieldsIf P ops S oi v a) (hS:S w) (hN:Nat.blt d N=true) (hb:bs.set i true=bs') (h:WA P px ops Kn S fuel bs' N ((d,v)::l) w):WA P px ops Kn S (fuel+1) bs N l w:=fun a ha=>by
  refine wpAnyH_take hi hs hf hr (fun _ _ _ hq=>by
    rcases hq with ⟨h,_⟩ | ⟨v,h1,h2,h3⟩
    · cases h
    · refine .inr ⟨v,h1,?_,h3⟩
      revert h2
      cases oi.dst <;> exact id) (hy a ha) hS ?_
  have:=h _ (ha.put hN)
  rw [← hb] at this
  rw [hd]
  simpa using this
theorem WA.take {i d:Nat} {op:Op} {t:TypeId} {ps:String} {af:Array Edge} {v:Value} {bs':List Bool} (hi:ops[i]? = some ⟨some d,op,t,ps,af,none⟩) (hs:Region.noSelect ops=true) (hf:Region.free .any ops bs.toArray i=true) (hr:(Region.ready .any ops bs.toArray).contains i=true)
    (hy:∀w,S w→RunV P N l ⟨some d,op,t,ps,af,none⟩ w v) (hS:S w) (hN:Nat.blt d N=true) (hb:bs.set i true=bs') (h:WA P px ops Kn S fuel bs' N ((d,v)::l) w):WA P px ops Kn S (fuel+1) bs N l w:=
  WA.takeAny hi rfl hs hf hr (fun a ha=>.inl ⟨rfl,fun w hS=>hy w hS a ha⟩) hS hN hb h
theorem yielded_of {j s:Nat} {x:Bool} {a:Act} (hj:(ops[j]?).bind (·.dst)=some s) (hs:lk s l=some (.bool x)) (ha:Holds N l a):yielded ops a.tmps j=some x:=by
  unfold yielded
  rw [hj]
  simp [ha.get s _ hs]
theorem WA.all1 {i:Nat} (hr:Region.ready .any ops bs.toArray=[i]) (h:WS P px ops Kn S fuel bs N l w i):WA P px ops Kn S (fuel+1) bs N l w:=fun a ha=>
  wpAnyH_all hr (by simp) fun j hj=>by
    rw [List.mem_singleton] at hj
    subst hj
    exact h a ha
theorem WA.all2 {i j:Nat} (hr:Region.ready .any ops bs.toArray=[i,j]) (h:WS P px ops Kn S fuel bs N l w i) (h2:WS P px ops Kn S fuel bs N l w j):WA P px ops Kn S (fuel+1) bs N l w:=fun a ha=>
  wpAnyH_all hr (by simp) fun k hk=>by
    rcases List.mem_cons.1 hk with rfl | hk
    · exact h a ha
    · rw [List.mem_singleton] at hk
      subst hk
      exact h2 a ha
theorem WA.all3 {i j k:Nat} (hr:Region.ready .any ops bs.toArray=[i,j,k]) (h:WS P px ops Kn S fuel bs N l w i) (h2:WS P px ops Kn S fuel bs N l w j) (h3:WS P px ops Kn S fuel bs N l w k):WA P px ops Kn S (fuel+1) bs N l w:=fun a ha=>
  wpAnyH_all hr (by simp) fun m hm=>by
    rcases List.mem_cons.1 hm with rfl | hm
    · exact h a ha
    rcases List.mem_cons.1 hm with rfl | hm
    · exact h2 a ha
    · rw [List.mem_singleton] at hm
      subst hm
      exact h3 a ha
section
variable {i d:Nat} {op:Op} {t:TypeId} {ps:String} {af:Array Edge} {bs':List Bool}
theorem WS.valg {oi:Oper} {v:Value} (hi:ops[i]? = some oi) (hw:∀a,Holds N l a→Region.wanted oi (yielded ops a.tmps)=true) (hd:oi.dst=some d) (hr:RunV P N l oi w v) (hN:Nat.blt d N=true) (hb:bs.set i true=bs')
    (h:S w∧WA P px ops Kn S fuel bs' N ((d,v)::l) w):WS P px ops Kn S fuel bs N l w i:=fun a ha=>by
  unfold wpOp
  simp only [hi,hw a ha,if_true]
  refine .inl ?_
  unfold Oper.wp
  rw [hr a ha]
  have:=h.2 _ (ha.put hN)
  rw [← hb] at this
  have h2:S w∧wpAnyH P .any ops (QN px Kn) S fuel (bs.toArray.setIfInBounds i true) (a.put (some d) v) w:=⟨h.1,by simpa using this⟩
  simpa only [Oper.upon,hd] using h2
theorem WS.val {v:Value} (hi:ops[i]? = some ⟨some d,op,t,ps,af,none⟩) (hr:RunV P N l ⟨some d,op,t,ps,af,none⟩ w v) (hN:Nat.blt d N=true) (hb:bs.set i true=bs') (h:S w∧WA P px ops Kn S fuel bs' N ((d,v)::l) w):WS P px ops Kn S fuel bs N l w i:=
  WS.valg hi (fun _ _=>rfl) rfl hr hN hb h
theorem WS.storeK {K:World→Prop} (hi:ops[i]? = some ⟨none,op,t,ps,af,none⟩) (hr:RunSK P N l ⟨none,op,t,ps,af,none⟩ w K) (hb:bs.set i true=bs')
    (h:∀w',K w'→S w'∧WA P px ops Kn S fuel bs' N l w'):WS P px ops Kn S fuel bs N l w i:=fun a ha=>by
  unfold wpOp
  simp only [hi,Region.wanted,if_true]
  refine .inl ?_
  obtain⟨w',h1,h2⟩:=hr a ha
  unfold Oper.wp
  rw [h1]
  have:=(h w' h2).2 _ ha
  rw [← hb] at this
  have h3:S w'∧wpAnyH P .any ops (QN px Kn) S fuel (bs.toArray.setIfInBounds i true) a w':=⟨(h w' h2).1,by simpa using this⟩
  exact h3
theorem WS.callg {oi:Oper} {f:FuncId} {args:Array Value} {K:Value→World→Prop} (hi:ops[i]? = some oi) (hw:∀a,Holds N l a→Region.wanted oi (yielded ops a.tmps)=true) (hd:oi.dst=some d) (hr:RunC P N l oi w f args) (hc:Calls P f args w fun e w'=>∃v,e = .returned v∧K v w') (hN:Nat.blt d N=true) (hb:bs.set i true=bs')
    (h:∀v w',K v w'→S w'∧WA P px ops Kn S fuel bs' N ((d,v)::l) w'):WS P px ops Kn S fuel bs N l w i:=fun a ha=>by
  unfold wpOp
  simp only [hi,hw a ha,if_true]
  refine .inl ?_
  unfold Oper.wp
  rw [hr a ha]
  refine Calls.mono hc fun e w' hq=>?_
  obtain⟨v,rfl,hv⟩:=hq
  rw [hd]
  refine ⟨(h v w' hv).1,?_⟩
  have:=(h v w' hv).2 _ (ha.put hN)
  rw [← hb] at this
  simpa using this
theorem WS.call {f:FuncId} {args:Array Value} {K:Value→World→Prop} (hi:ops[i]? = some ⟨some d,op,t,ps,af,none⟩) (hr:RunC P N l ⟨some d,op,t,ps,af,none⟩ w f args) (hc:Calls P f args w fun e w'=>∃v,e = .returned v∧K v w') (hN:Nat.blt d N=true) (hb:bs.set i true=bs')
    (h:∀v w',K v w'→S w'∧WA P px ops Kn S fuel bs' N ((d,v)::l) w'):WS P px ops Kn S fuel bs N l w i:=WS.callg hi (fun _ _=>rfl) rfl hr hc hN hb h
end
end
section
variable {P:Program} {px:Value→World→Prop} {w:World} {α:Type}
end
end V
end Go.Proofs.YtoahakdkgefgiaaGreat
