/- The walk's own small logic: frames as association lists, rea -/
import Derived.Test.YtbgfhaahhdnogaaGreatPure
import Derived.Calls
import Derived.Tactics
import Derived.Orders
import Derived.OrdersHeld
import Derived.Laws.AppendOwn
import Derived.Laws.OwnMore
import Derived.Laws.MakeOwn
import Derived.Laws.CopyRow
import Derived.Maps.AppendAt
namespace Go.Proofs.YtbgfhaahhdnogaaGreat
namespace V
abbrev Env:=List (Nat×Value)
def lk(t:Nat):Env->Option Value
 | []=>none
 | (d,v)::l=>match Nat.beq t d with
  | true=>some v
  | false=>lk t l
def ev(l:Env):Operand->Option Value
 | .tmp t=>lk t l
 | .const v=>some v
 | .global g=>some (.pointer (some ⟨g,0,none⟩))
 | .func f=>some (.func (.func f) #[] #[])
structure Holds(N:Nat)(l:Env)(a:Act):Prop where
 size:a.tmps.size=N
 defers:a.defers=[]
 get:∀t v,lk t l=some v->a.tmps[t]?=some v
section
variable {N:Nat} {l:Env} {a:Act}
theorem Holds.ev(h:Holds N l a){x:Operand}{v:Value}(hx:ev l x=some v):a.eval x=v:=by
 cases x with
 | tmp t=>
   have:=h.get t v hx;simp[Act.eval,Array.getD_eq_getD_getElem?,this]
 | const u=>simpa [V.ev,Act.eval]using hx
 | global g=>simpa [V.ev,Act.eval]using hx
 | func f=>simpa [V.ev,Act.eval]using hx
theorem Holds.put(h:Holds N l a){d v}(hd:Nat.blt d N=true):Holds N ((d,v)::l) (a.put (some d) v):=by
 have hlt:d<N:=by simpa [Nat.blt_eq]using hd
 refine⟨by simp[Act.put,h.size],h.defers,fun t u hu=>?_⟩;simp only[lk]at hu;by_cases e:t=d
 .subst e;simp only[Nat.beq_refl,Option.some.injEq]at hu;subst hu;simp[Act.put,h.size,hlt]
 .have hb:Nat.beq t d=false:=by
   cases hc:Nat.beq t d with
   | false=>rfl
   | true=>exact absurd (Nat.eq_of_beq_eq_true hc) e
  rw[hb]at hu;have:=h.get t u hu;simp only[Act.put];rw[Array.getElem?_setIfInBounds_ne (fun h=>e h.symm)];exact this
def Sub(l:Env):Env->Prop
 | []=>True
 | (t,v)::r=>lk t l=some v/\Sub l r
theorem Sub.look{l l'}(hs:Sub l l'):∀t v,lk t l'=some v->lk t l=some v:=by
 induction l' with
 | nil=>intro t v h;cases h
 | cons p r ih=>
   obtain⟨d,u⟩:=p;intro t v h;simp only[lk]at h;cases hb:Nat.beq t d with
   | true=>
     rw[hb]at h;simp only[Option.some.injEq]at h;subst h;rw[Nat.eq_of_beq_eq_true hb];exact hs.1
   | false=>
     rw[hb]at h;exact ih hs.2 t v h
theorem Holds.sub{l'}(h:Holds N l a)(hs:Sub l l'):Holds N l' a:=
 ⟨h.size,h.defers,fun t v hv=>h.get t v (hs.look t v hv)⟩
end
def pe(v:Value):PanicEntry:={v:=v,recovered:=false,goexit:=false}
def QN(px:Value->World->Prop)(Kn:Act->World->Prop):Exit->Act->World->Prop:=fun e a w=>(e=.normal/\Kn a w)\/∃v,e=.panic [pe v]/\a.defers=[]/\px v w
def Tn(px:Value->World->Prop)(Kn:Act->World->Prop)(Ke:Nat->Act->World->Prop)(Kr:Act->World->Prop):Exit->Act->World->Prop
 | .normal,a,w=>Kn a w
 | .exit i,a,w=>Ke i a w
 | .ret,a,w=>Kr a w
 | .panic ch,a,w=>∃v,ch=[pe v]/\a.defers=[]/\px v w
 | _,_,_=>False
def IL(P:Program)(px:Value->World->Prop)(c:Code)(Kn:Act->World->Prop)(Ke:Nat->Act->World->Prop)(Kr:Act->World->Prop)(a:Act)(w:World):Prop:=
 c.wp P (Tn px Kn Ke Kr) a w
def WC(P:Program)(px:Value->World->Prop)(c:Code)(Kn:Act->World->Prop)(Ke:Nat->Act->World->Prop)(Kr:Act->World->Prop)(N:Nat)(l:Env)(w:World):Prop:=
 ∀a,Holds N l a->IL P px c Kn Ke Kr a w
def WL(P:Program)(px:Value->World->Prop)(ops:Array Oper)(rest:List Oper)(Kn:Act->World->Prop)(N:Nat)(l:Env)(w:World):Prop:=
 ∀a,Holds N l a->wpList P ops (QN px Kn) rest a w
section
variable {P:Program} {px:Value->World->Prop} {Kn:Act->World->Prop} {Ke:Nat->Act->World->Prop} {Kr:Act->World->Prop} {N:Nat} {l:Env} {w:World}
theorem WC.seq{x y}(h:WC P px x (fun a w=>IL P px y Kn Ke Kr a w) Ke Kr N l w):WC P px (.seq x y) Kn Ke Kr N l w:=fun a ha=>by
 refine wp_seq (wp_mono (h a ha) fun e a w hq=>?_);cases e<;>exact hq
theorem WC.aa6{x y}J(h:WC P px x J Ke Kr N l w)(h2:∀a w,J a w->IL P px y Kn Ke Kr a w):WC P px (.seq x y) Kn Ke Kr N l w:=fun a ha=>by
 refine wp_seq (wp_mono (h a ha) fun e a w hq=>?_);cases e
 case normal=>exact h2 a w hq
 all_goals exact hq
theorem WC.skip(h:∀a,Holds N l a->Kn a w):WC P px .skip Kn Ke Kr N l w:=fun a ha=>wp_skip (h a ha)
theorem WC.aF{y DJ Wd Kr'}(h:WC P px y DJ Wd Kr' N l w):WC P px .skip (fun a w=>IL P px y DJ Wd Kr' a w) Ke Kr N l w:=fun a ha=>wp_skip (h a ha)
theorem WC.exit{i}(h:∀a,Holds N l a->Ke i a w):WC P px (.exit i) Kn Ke Kr N l w:=fun a ha=>wp_exit (h a ha)
theorem WC.ret(h:∀a,Holds N l a->Kr a w):WC P px .ret Kn Ke Kr N l w:=fun a ha=>wp_ret (h a ha)
def inB(i:Nat)(Kn:Act->World->Prop)(Ke:Nat->Act->World->Prop):Nat->Act->World->Prop:=fun j=>match Nat.beq j i with
 | true=>Kn
 | false=>Ke j
theorem WC.block{i c}(h:WC P px c Kn (inB i Kn Ke) Kr N l w):WC P px (.block i c) Kn Ke Kr N l w:=fun a ha=>by
 refine wp_block (wp_mono (h a ha) fun e a w hq=>?_);cases e
 case exit j=>
  simp only[Exit.inBlock,Tn,inB]at hq |-;by_cases e:j=i
  .subst e;simpa using hq
  .have hb:Nat.beq j i=false:=by
    cases hc:Nat.beq j i with
    | false=>rfl
    | true=>exact absurd (Nat.eq_of_beq_eq_true hc) e
   rw[hb]at hq;simpa [e]using hq
 all_goals exact hq
theorem WC.cond{c x y t}(hc:ev l c=some (.bool t))(ht:t=true->WC P px x Kn Ke Kr N l w)(hf:t=false->WC P px y Kn Ke Kr N l w) :
 WC P px (.cond c x y) Kn Ke Kr N l w:=fun a ha=>
 wp_cond_split (ha.ev hc) (fun e=>ht e a ha) (fun e=>hf e a ha)
theorem leastOf{G:Nat->Prop}(h:∃n,G n):∃n,G n/\∀m,G m->n<=m:=by
 obtain⟨n,hn⟩:=h
 induction n using Nat.strongRecOn with
 | _ n ih=>
   by_cases hm:∃m,m<n/\G m
   .obtain⟨m,hlt,hm⟩:=hm;exact ih m hlt hm
   .exact⟨n,hn,fun m hG=>by
     rcases Nat.lt_or_ge m n with hlt|hge
     .exact absurd ⟨m,hlt,hG⟩ hm
     .exact hge⟩
theorem WC.loop{c}(G:Nat->Act->World->Prop)n0(h0:∀a,Holds N l a->G n0 a w)
 (round:∀n a w,G n a w->IL P px c (fun a w=>∃m,m<n/\G m a w) Ke Kr a w):WC P px (.loop c) Kn Ke Kr N l w:=fun a ha=>by
 classical
 let μ:Act->World->Nat:=fun a w=>if h:∃n,G n a w then Classical.choose (leastOf h)else 0
 have hμ:∀a w,(∃n,G n a w)->G (μ a w) a w/\∀m,G m a w->μ a w<=m:=fun a w h=>by
  simp only[μ];rw[dif_pos h];exact Classical.choose_spec (leastOf h)
 refine wp_loop (fun a w=>∃n,G n a w) μ ⟨n0,h0 a ha⟩ fun a w hI=>?_;refine wp_mono (round _ a w (hμ a w hI).1) fun e a' w' hq=>?_;cases e
 case normal=>
  obtain⟨m,hm,hG⟩:=hq;exact⟨⟨m,hG⟩,Nat.lt_of_le_of_lt ((hμ a' w' ⟨m,hG⟩).2 m hG) hm⟩
 all_goals exact hq
theorem WC.region{id os}(h:WL P px os.toArray os Kn N l w):WC P px (.region id os.toArray false) Kn Ke Kr N l w:=fun a ha=>by
 refine wp_mono (wp_region_lit (h a ha)) fun e a w hq=>?_;rcases hq with⟨rfl,hq⟩|⟨v,rfl,hq⟩
 .exact hq
 .exact⟨v,rfl,hq⟩
end
def dQ(P:Program)(N:Nat)(l:Env)(o:Oper)(w:World)(v:Value):Prop:=
 ∀a,Holds N l a->(execOp a.eval o).run P w=.ok (.value v) w
def K7(P:Program)(N:Nat)(l:Env)(o:Oper)(w:World)(K:Value->World->Prop):Prop:=
 ∀a,Holds N l a->∃v w',(execOp a.eval o).run P w=.ok (.value v) w'/\K v w'
section
variable {P:Program} {px:Value->World->Prop} {ops:Array Oper} {rest:List Oper} {Kn:Act->World->Prop} {N:Nat} {l:Env} {w:World}
theorem WL.nil(h:∀a,Holds N l a->Kn a w):WL P px ops [] Kn N l w:=fun a ha=>wpList_nil (.inl ⟨rfl,h a ha⟩)
theorem WL.nT{y DJ Ke Kr}(h:WC P px y DJ Ke Kr N l w) :
 WL P px ops [] (fun a w=>IL P px y DJ Ke Kr a w) N l w:=fun a ha=>wpList_nil (.inl ⟨rfl,h a ha⟩)
theorem WL.val{d:Nat}{op t ps af v}(hr:dQ P N l ⟨some d,op,t,ps,af,none⟩ w v)(hd:Nat.blt d N=true)
 (h:WL P px ops rest Kn N ((d,v)::l) w):WL P px ops (⟨some d,op,t,ps,af,none⟩::rest) Kn N l w:=fun a ha=>
 wpList_plain rfl fun K hK=>by
  unfold Oper.wp;rw[hr a ha];exact hK _ _ (h _ (ha.put hd))
theorem WL.val0{op t ps af v}(hr:dQ P N l ⟨none,op,t,ps,af,none⟩ w v)
 (h:WL P px ops rest Kn N l w):WL P px ops (⟨none,op,t,ps,af,none⟩::rest) Kn N l w:=fun a ha=>
 wpList_plain rfl fun K hK=>by
  unfold Oper.wp;rw[hr a ha];exact hK _ _ (h _ ha)
def Y9(P:Program)(N:Nat)(l:Env)(o:Oper)(w:World)(f:FuncId)(args:Array Value):Prop:=
 ∀a,Holds N l a->(execOp a.eval o).run P w=.ok (.enter f args) w
theorem WL.yes{d:Option Nat}{op t ps af}{j:Nat}{b x}{s:Nat}(hj:(ops[j]?).bind (·.dst)=some s)(hs:lk s l=some (.bool x))(hx:x=b)
 (h:WL P px ops (⟨d,op,t,ps,af,none⟩::rest) Kn N l w):WL P px ops (⟨d,op,t,ps,af,some (j,b)⟩::rest) Kn N l w:=fun a ha=>by
 have h1:=h a ha;have hy:yielded ops a.tmps j=some x:=by
  unfold yielded;rw[hj];simp[ha.get s _ hs]
 unfold wpList at h1 |-;simp only[Region.wanted,hy,hx,BEq.rfl,if_true]at h1 |-;exact h1
theorem WL.no{d op t ps af}{j:Nat}{b x}{s:Nat}(hj:(ops[j]?).bind (·.dst)=some s)(hs:lk s l=some (.bool x))(hx:x = !b)(hd:Nat.blt d N=true)
 (h:WL P px ops rest Kn N ((d,undef)::l) w):WL P px ops (⟨some d,op,t,ps,af,some (j,b)⟩::rest) Kn N l w:=fun a ha=>by
 have hy:yielded ops a.tmps j=some x:=by
  unfold yielded;rw[hj];simp[ha.get s _ hs]
 unfold wpList;have hw:Region.wanted ⟨some d,op,t,ps,af,some (j,b)⟩ (yielded ops a.tmps)=false:=by
  simp only[Region.wanted,hy,hx];cases b<;>rfl
 rw[if_neg (by simp[hw])];exact h _ (ha.put hd)
theorem BA{Q J}(hP:∀v (a:Act) w,a.defers=[]/\px v w->Q (.panic [pe v]) a w)r2(h2:∀a w,J a w->wpList P ops Q r2 a w) :
 ∀r1 a w,wpList P ops (QN px J) r1 a w->wpList P ops Q (r1++r2) a w
 | [],a,w,h=>by
   rcases h with⟨_,h⟩|⟨_,h,_⟩
   .exact h2 a w h
   .cases h
 | o::r1,a,w,h=>by
   have ih:=BA hP r2 h2 r1;simp only[List.cons_append];unfold wpList at h |-;split at h
   .rename_i hw;rw[if_pos hw];rcases h with h|⟨_,a',w',h⟩
    .refine .inl ?_;unfold Oper.wp at *;generalize (execOp a.eval o).run P w=r at *;have hq:∀(e:Exit) a w,e≠.normal->QN px J e a w->Q e a w:=fun e a w hne hq=>by
      rcases hq with⟨h,_⟩|⟨v,rfl,h⟩
      .exact absurd h hne
      .exact hP v a w h
     cases r with
     | ok n w'=>
       cases n<;>simp only[Oper.upon]at h |-<;>
        first
         | exact ih _ _ h
         | (refine Calls.mono h fun e w'' he=>?_
            cases e with
            | returned v=>exact ih _ _ he
            | panicked c=>exact hq _ _ _ (by simp) he
            | outgrown=>
              obtain⟨_,_,h0⟩:=he;rcases h0 with⟨h0,_⟩|⟨_,h0,_⟩<;>cases h0)
         | exact Rows.mono h fun _ _ he=>ih _ _ he
     | halt x w'=>cases x<;>simp only[Oper.upon]at h |-<;>exact hq _ _ _ (by simp) h
    .rcases h with⟨h,_⟩|⟨_,h,_⟩<;>cases h
   .rename_i hw;rw[if_neg hw];exact ih _ _ h
theorem WL.cut{r1 r2}J(h1:WL P px ops r1 J N l w)(h2:∀a w,J a w->wpList P ops (QN px Kn) r2 a w) :
 WL P px ops (r1++r2) Kn N l w:=fun a ha=>
 BA (Q:=QN px Kn) (fun v _ _ h=>.inr ⟨v,rfl,h⟩) r2 h2 r1 a w (h1 a ha)
end
end V
end Go.Proofs.YtbgfhaahhdnogaaGreat
