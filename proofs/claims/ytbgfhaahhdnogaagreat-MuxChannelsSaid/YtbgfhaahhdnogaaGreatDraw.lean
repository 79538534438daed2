/- Statements that leave their order open: what reads only is t -/
import Derived.Test.YtbgfhaahhdnogaaGreatGlue
namespace Go.Proofs.YtbgfhaahhdnogaaGreat
namespace V
def yU(brk:List Nat)(b:Array Bool):Bool:=brk.any fun j=>b.getD j true
def MW(brk:List Nat)(bs:List Bool):Bool:=brk.any fun j=>(bs[j]?).getD true
def o9(ops:Array Oper)(brk:List Nat)(i:Nat):Bool:=brk.all fun j=>!Nat.beq j i&&(match ops[j]? with
 | some o=>o.after.any fun e=>Region.binds .any e&&Nat.beq e.on i
 | none=>false)
def oO(P:Program)(ops:Array Oper)(Q:Exit->Act->World->Prop)(S:Array Bool->World->Prop):Nat->Array Bool->Act->World->Prop
 | 0,b,a,w=>Region.ready .any ops b=[]/\Q .normal a w
 | fuel+1,b,a,w=>
   (Region.ready .any ops b=[]->Q .normal a w)/\
   ∀i∈Region.ready .any ops b,wpOp P ops Q i (fun a' w'=>S (b.setIfInBounds i true) w'/\oO P ops Q S fuel (b.setIfInBounds i true) a' w') a w
section
variable {P:Program} {ops:Array Oper} {Q:Exit->Act->World->Prop} {S:Array Bool->World->Prop} {S0:World->Prop} {brk:List Nat} {fuel:Nat} {b:Array Bool} {a:Act} {w:World}
theorem xA{i}(h:yU brk b=false)(hi:i∉brk):yU brk (b.setIfInBounds i true)=false:=by
 unfold yU at h |-;rw[List.any_eq_false]at h |-;intro j hj;have hne:i≠j:=fun e=>hi (e▸hj);rw[getD_set_ne true hne];exact h j hj
theorem QK{i}(h:yU brk (b.setIfInBounds i true)=false):yU brk b=false:=by
 unfold yU at h |-;rw[List.any_eq_false]at h |-;intro j hj;have h1:=h j hj;by_cases hne:i=j
 .subst hne;intro h2;apply h1;by_cases hlt:i<b.size
  .simp[hlt]
  .simp[Nat.not_lt.1 hlt]
 .rwa [getD_set_ne true hne]at h1
theorem FZ{bs}:yU brk bs.toArray=MW brk bs:=by
 unfold yU MW;congr 1;funext j;simp
theorem BD:∀fuel b a w,oO P ops Q S fuel b a w->wpAny P .any ops Q fuel b a w
 | 0,_,_,_,h=>h
 | fuel+1,_,_,_,h=>⟨h.1,fun i hi=>wpOp_mono (fun a' w' h'=>BD fuel _ a' w' h'.2) (h.2 i hi)⟩
theorem Gy{i oi v}(hi:ops[i]?=some oi)(hsel:∀(j:Nat) (o:Oper) cs b,ops[j]?=some o->o.op≠.select cs b)
 (hQ:∀c a w,Q (.panic c) (a.put oi.dst v) w->Q (.panic c) a w) (Qt:o9 ops brk i=true) (hS0:∀b w,yU brk b=false->S b w->S0 w) (hSm:∀(b:Array Bool) w,S (b.setIfInBounds i true) w->S b w) :
 ∀fuel b a w,
  (∀j oj,ops[j]?=some oj->j≠i->b.getD j true=false->(∀e∈oj.after,Region.binds .any e=true->e.on≠i)->oi.apart ops oj=true)->
  i∈Region.ready .any ops b->YieldsIf P ops S0 oi v a->yU brk b=false->S (b.setIfInBounds i true) w->
  oO P ops Q S fuel (b.setIfInBounds i true) (a.put oi.dst v) w->oO P ops Q S (fuel+1) b a w:=by
 have hib:i∉brk:=fun hm=>by
  unfold o9 at Qt;rw[List.all_eq_true]at Qt;have:=Qt i hm;simp at this
 intro fuel
 induction fuel with
 | zero=>
   intro b a w _ hr hy hb hS H;refine⟨fun h=>(by rw[h]at hr;cases hr),fun j hj=>?_⟩;by_cases hji:j=i
   .subst hji;exact hy.wpOp hi (hS0 _ _ (xA hb hib) hS) ⟨hS,H⟩
   .have:=ready_mono hj hji;rw[H.1]at this;cases this
 | succ fuel ih=>
   intro b a w hfree hr hy hb hS H;refine⟨fun h=>(by rw[h]at hr;cases hr),fun j hj=>?_⟩;by_cases hji:j=i
   .subst hji;exact hy.wpOp hi (hS0 _ _ (xA hb hib) hS) ⟨hS,H⟩
   .have h1:=H.2 j (ready_mono hj hji);obtain⟨hjun,oj,hoj,hall⟩:=mem_ready.1 hj;have hnot:∀e∈oj.after,Region.binds .any e=true->e.on≠i:=fun e he hb heq=>by
     have h1:=hall e he hb;have h0:=(mem_ready.1 hr).1;rw[heq]at h1;rcases Nat.lt_or_ge i b.size with h'|h'
     .simp[h']at h0 h1;rw[h0]at h1;cases h1
     .simp[Array.getElem?_eq_none h']at h1
    have hjb:j∉brk:=fun hm=>by
     unfold o9 at Qt;rw[List.all_eq_true]at Qt;have h2:=Qt j hm;simp only[hoj,Bool.and_eq_true]at h2;obtain⟨e,he,h3⟩:=Array.any_eq_true'.1 h2.2;simp only[Bool.and_eq_true,Nat.beq_eq]at h3;exact hnot e he h3.1 h3.2
    have h2:=wpOp_putIf hoj (hfree j oj hoj hji hjun hnot) (fun cs b=>hsel i oi cs b hi) (fun cs b=>hsel j oj cs b hoj) hQ hy h1;have hfree':∀k ok,ops[k]?=some ok->k≠i->(b.setIfInBounds j true).getD k true=false->
     (∀e∈ok.after,Region.binds .any e=true->e.on≠i)->oi.apart ops ok=true:=fun k ok hk hki hun hno=>by
     refine hfree k ok hk hki ?_ hno;by_cases hjk:j=k
     .subst hjk;exact hjun
     .rw[getD_set_ne true hjk]at hun;exact hun
    have hcomm:(b.setIfInBounds i true).setIfInBounds j true=(b.setIfInBounds j true).setIfInBounds i true:=Array.setIfInBounds_comm _ _ (Ne.symm hji);rw[hcomm]at h2;have hb2:yU brk (b.setIfInBounds j true)=false:=xA hb hjb;refine wpOp_mono (fun a' w' h3=>⟨?_,ih (b.setIfInBounds j true) a' w' hfree' (ready_mono hr (Ne.symm hji)) h3.1 hb2 h3.2.1 h3.2.2⟩) h2;exact hSm _ _ h3.2.1
end
section
variable {P:Program} {ops:Array Oper} {Q:Exit->Act->World->Prop} {S:Array Bool->World->Prop} {fuel:Nat} {b:Array Bool} {a:Act} {w:World}
theorem BF{rs}(hr:Region.ready .any ops b=rs)(hne:rs≠[])
 (h:∀i∈rs,wpOp P ops Q i (fun a' w'=>S (b.setIfInBounds i true) w'/\oO P ops Q S fuel (b.setIfInBounds i true) a' w') a w):oO P ops Q S (fuel+1) b a w:=
 ⟨fun h0=>absurd (hr▸h0) hne,hr▸h⟩
theorem y8(hr:Region.ready .any ops b=[])(h:Q .normal a w):∀fuel,oO P ops Q S fuel b a w
 | 0=>⟨hr,h⟩
 | _+1=>⟨fun _=>h,by rw[hr];simp⟩
end
section
variable {P:Program} {px:Value->World->Prop} {ops:Array Oper} {Kn:Act->World->Prop} {S:Array Bool->World->Prop} {fuel N:Nat} {bs:List Bool} {l:Env} {w:World}
def WA(P:Program)(px:Value->World->Prop)(ops:Array Oper)(Kn:Act->World->Prop)(S:Array Bool->World->Prop)(fuel:Nat)(bs:List Bool)(N:Nat)(l:Env)(w:World):Prop:=
 ∀a,Holds N l a->oO P ops (QN px Kn) S fuel bs.toArray a w
def WS(P:Program)(px:Value->World->Prop)(ops:Array Oper)(Kn:Act->World->Prop)(S:Array Bool->World->Prop)(fuel:Nat)(bs:List Bool)(N:Nat)(l:Env)(w:World)(i:Nat):Prop:=
 ∀a,Holds N l a->wpOp P ops (QN px Kn) i (fun a' w'=>S (bs.toArray.setIfInBounds i true) w'/\oO P ops (QN px Kn) S fuel (bs.toArray.setIfInBounds i true) a' w') a w
theorem WC.draw{Ke Kr id}{os:List Oper}{U0 X0 w0 L}S(hm:P.follows .mixedOrders=true)(C:Ctx U0 X0 w0 L w)
 (h:∀w',Ctx U0 X0 w0 L w'->TR U0 L w L w' []->WA P px os.toArray Kn S os.length (List.replicate os.length false) N l w'):WC P px (.region id os.toArray true) Kn Ke Kr N l w:=fun a ha=>by
 have h1:=h _ C.drew.1 C.drew.2 a ha;have h2:=wp_region_any (id:=id) (a:=a) (w:=w) hm (BD _ _ _ _ (by rw[show os.toArray.size=os.length from rfl,<-List.toArray_replicate];exact h1));refine wp_mono h2 fun e a w hq=>?_;rcases hq with⟨rfl,hq⟩|⟨v,rfl,hq⟩
 .exact hq
 .exact⟨v,rfl,hq⟩
theorem WA.done(hr:Region.ready .any ops bs.toArray=[])(h:∀a,Holds N l a->Kn a w):WA P px ops Kn S fuel bs N l w:=fun a ha=>
 y8 hr (.inl ⟨rfl,h a ha⟩) fuel
theorem WA.fM{y DJ Ke Kr}(hr:Region.ready .any ops bs.toArray=[])(h:WC P px y DJ Ke Kr N l w):WA P px ops (fun a w=>IL P px y DJ Ke Kr a w) S fuel bs N l w:=fun a ha=>
 y8 hr (.inl ⟨rfl,h a ha⟩) fuel
theorem WA.GD{i d:Nat}{oi v bs' S0 brk}(hi:ops[i]?=some oi)(hd:oi.dst=some d)(hs:Region.noSelect ops=true)(hf:Region.free .any ops bs.toArray i=true)(hr:(Region.ready .any ops bs.toArray).contains i=true)
 (hw:o9 ops brk i=true) (hb0:MW brk bs=false) (hS0:∀b w,yU brk b=false->S b w->S0 w) (hSm:∀(b:Array Bool) w,S (b.setIfInBounds i true) w->S b w)
 (hy:∀a,Holds N l a->YieldsIf P ops S0 oi v a) (hS:S bs'.toArray w) (hN:Nat.blt d N=true) (hb:bs.set i true=bs') (h:WA P px ops Kn S fuel bs' N ((d,v)::l) w):WA P px ops Kn S (fuel+1) bs N l w:=fun a ha=>by
 have e:bs.toArray.setIfInBounds i true=bs'.toArray:=by rw[<-hb];simp
 refine Gy hi (Region.noSelect_spec hs) (fun _ _ _ hq=>by
  rcases hq with⟨h,_⟩|⟨v,h1,h2,h3⟩
  .cases h
  .refine .inr ⟨v,h1,?_,h3⟩
   revert h2
   cases oi.dst<;>exact id) hw hS0 hSm fuel _ a w (Region.free_spec hi hf) (by simpa using hr) (hy a ha) (by rw[FZ];exact hb0) (by rw[e];exact hS) ?_
 have:=h _ (ha.put hN);rw[hd,e];exact this
theorem WA.take{i d:Nat}{op t ps af v bs'}(hi:ops[i]?=some ⟨some d,op,t,ps,af,none⟩)(hs:Region.noSelect ops=true)(hf:Region.free .any ops bs.toArray i=true)(hr:(Region.ready .any ops bs.toArray).contains i=true)
 (hSm:∀(b:Array Bool) w,S (b.setIfInBounds i true) w->S b w) (hy:∀w,dQ P N l ⟨some d,op,t,ps,af,none⟩ w v) (hS:S bs'.toArray w) (hN:Nat.blt d N=true) (hb:bs.set i true=bs') (h:WA P px ops Kn S fuel bs' N ((d,v)::l) w):WA P px ops Kn S (fuel+1) bs N l w:=
 WA.GD (S0:=fun _=>True) (brk:=[]) hi rfl hs hf hr rfl rfl (fun _ _ _ _=>trivial) hSm (fun a ha=>.inl ⟨rfl,fun w _=>hy w a ha⟩) hS hN hb h
theorem uQ{j s:Nat}{x a}(hj:(ops[j]?).bind (·.dst)=some s)(hs:lk s l=some (.bool x))(ha:Holds N l a):yielded ops a.tmps j=some x:=by
 unfold yielded;rw[hj];simp[ha.get s _ hs]
theorem WA.all1{i}(hr:Region.ready .any ops bs.toArray=[i])(h:WS P px ops Kn S fuel bs N l w i):WA P px ops Kn S (fuel+1) bs N l w:=fun a ha=>
 BF hr (by simp) fun j hj=>by
  rw[List.mem_singleton]at hj;subst hj;exact h a ha
theorem WA.all2{i j}(hr:Region.ready .any ops bs.toArray=[i,j])(h:WS P px ops Kn S fuel bs N l w i)(h2:WS P px ops Kn S fuel bs N l w j):WA P px ops Kn S (fuel+1) bs N l w:=fun a ha=>
 BF hr (by simp) fun k hk=>by
  rcases List.mem_cons.1 hk with rfl|hk
  .exact h a ha
  .rw[List.mem_singleton]at hk;subst hk;exact h2 a ha
section
variable {i d:Nat} {op:Op} {t:TypeId} {ps:String} {af:Array Edge} {bs':List Bool}
end
end
section
variable {P:Program} {px:Value->World->Prop} {w:World} {α:Type}
end
end V
end Go.Proofs.YtbgfhaahhdnogaaGreat
