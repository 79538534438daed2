/- Arrays that are variables of the call's own; loops whose rou -/
import Derived.Test.YtbgfhaahhdnogaaGreatUpd
import Derived.LoopN
import Derived.ChangeKeysEq
namespace Go.Proofs.YtbgfhaahhdnogaaGreat
namespace V
section
variable {P:Program} {N n0:Nat} {fx:Fx} {its aR:List Item} {κ:List Conc} {w:World} {env env':bP} {tt:TT} {Kn:Act->World->Prop} {Ke:Nat->Act->World->Prop} {Kr:Act->World->Prop}
def Rd(P:Program)(px:Value->World->Prop)(c:Code)(Ke:Nat->Act->World->Prop)(Kr:Act->World->Prop)(m:Nat)(a:Act)(w:World):Prop:=Code.rounds P c (Tn px (fun _ _=>False) Ke Kr) m a w
theorem A.rd{c m a}(h:A N n0 fx env its a w)(hc:Z P c (Rd P fx.px c Ke Kr m) Ke Kr N n0 fx env its):Rd P fx.px c Ke Kr (m+1) a w:=by
 obtain⟨κ,h1,h2⟩:=h;refine wp_mono (hc κ w h2 a h1) fun e a w hq=>?_;cases e<;>exact hq
theorem Rd.lay{px c m}{Q0:Act->World->Prop}m'(Q:Act->World->Prop)(h:∀a w,Q a w->Rd P px c Ke Kr m' a w)(k:(∀a w,Q a w->Rd P px c Ke Kr m' a w)->∀a w,Q0 a w->Rd P px c Ke Kr m a w):∀a w,Q0 a w->Rd P px c Ke Kr m a w:=k h
def ac9(tt:TT)(ty:TypeId)(iv:Int)(o:Nat):Option Nat:=match jU ty tt with
 | some ⟨.array n e,_,_,_,_⟩=>(match jU e tt with
   | some te=>(match decide (0<=iv),decide (iv<n)with
     | true,true=>some (o+iv.toNat*te.size)
     | _,_=>none)
   | none=>none)
 | _=>none
theorem KH(bZ:eu P tt){d:Option Nat}{t ps af g ty T x y k iv i o off cs}
 (hx:jN env x=some (vp i o)) (hy:jN env y=some (vi k iv)) (hi:its[i]?=some (.k T cs)) (ho:ac9 tt ty iv o=some off):Eff P N n0 fx env its ⟨d,.indexAddr ty x y,t,ps,af,g⟩ (some (vp i off)) its:=fun κ w S a ha=>by
 unfold ac9 at ho;split at ho
 .rename_i n e _ _ _ _ ht;split at ho
  .rename_i te hte;split at ho
   .rename_i h0 h1;injection ho with ho;have h0:=of_decide_eq_true h0;have h1:=of_decide_eq_true h1;obtain⟨c,hc,hok⟩:=S.iy hi;cases c with
    | b q=>
      have hx':=eD (κ:=κ) hx;have hy':=eD (κ:=κ) hy;simp only[SV.den,Cell.den,hc]at hx' hy';have hrun:(Instr.indexAt ty (.pointer (some ⟨q,o,none⟩)) (.int k iv)).run P w=.ok (.pointer (some ⟨q,off,none⟩)) w:=by
       simp[Instr.indexAt,Instr.sureAddr,asIntOf,run_underlying (bZ.get ht).und,h0,h1,(bZ.get hte).size,Addr.add_lit,ho]
      refine .inl ⟨_,w,?_,[],fun z hz=>(by injection hz with hz;subst hz;rfl),by rw[List.append_nil];exact S⟩;simp only[execOp,ha.ev hx',ha.ev hy',Sem.run_bind,hrun,Result.andThen_ok,SV.den,Cell.den,List.append_nil,hc];rfl
    | _=>exact hok.elim
   .cases ho
  .cases ho
 .cases ho
end
end V
end Go.Proofs.YtbgfhaahhdnogaaGreat
