/- Arrays that are variables of the call's own; loops whose rou -/
import Derived.Test.YtbgfhaahhdnogaaGreatUpd
import Derived.LoopN
import Derived.ChangeKeysEq
namespace Go.Proofs.YtbgfhaahhdnogaaGreat
namespace V
section
variable {P:Program} {N n0:Nat} {fx:Fx} {its aM:List Item} {κ:List Conc} {w:World} {env env':bK} {tt:TT} {Kn:Act→World→Prop} {Ke:Nat→Act→World→Prop} {Kr:Act→World→Prop}
def Z6(tt:TT)(ty:TypeId)(iv:Int)(o:Nat):Option Nat:=match jl ty tt with
 | some ⟨.array n e,_,_,_,_⟩=>(match jl e tt with
   | some te=>(match decide (0≤iv),decide (iv<n)with
     | true,true=>some (o+iv.toNat*te.size)
     | _,_=>none)
   | none=>none)
 | _=>none
theorem I5(bX:dS P tt){d:Option Nat}{t:TypeId}{ps:String}{af:Array Edge}{g:Option (Nat×Bool)}{ty T:TypeId}{x y:Operand}{k:IntKind}{iv:Int}{i o off:Nat}{cs:List Cell}
 (hx:jd env x=some (vp i o)) (hy:jd env y=some (vi k iv)) (hi:its[i]? = some (.k T cs)) (ho:Z6 tt ty iv o=some off):Eff P N n0 fx env its ⟨d,.indexAddr ty x y,t,ps,af,g⟩ (some (vp i off)) its:=fun κ w S a ha=>by
 unfold Z6 at ho
 split at ho
 ·rename_i n e _ _ _ _ ht
  split at ho
  ·rename_i te hte
   split at ho
   ·rename_i h0 h1
    injection ho with ho
    have h0:=of_decide_eq_true h0
    have h1:=of_decide_eq_true h1
    obtain⟨c,hc,hok⟩:=S.gG hi
    cases c with
    | b q=>
      have hx':=eD (κ:=κ) hx
      have hy':=eD (κ:=κ) hy
      simp only[SV.den,Cell.den,hc]at hx' hy'
      have hrun:(Instr.indexAt ty (.pointer (some ⟨q,o,none⟩)) (.int k iv)).run P w=.ok (.pointer (some ⟨q,off,none⟩)) w:=by
       simp[Instr.indexAt,Instr.sureAddr,asIntOf,run_underlying (bX.get ht).und,h0,h1,(bX.get hte).size,Addr.add_lit,ho]
      refine .inl ⟨_,w,?_,[],fun z hz=>(by injection hz with hz;subst hz;rfl),by rw[List.append_nil];exact S⟩
      simp only[execOp,ha.ev hx',ha.ev hy',Sem.run_bind,hrun,Result.andThen_ok,SV.den,Cell.den,List.append_nil,hc]
      rfl
    | _=>exact hok.elim
   ·cases ho
  ·cases ho
 ·cases ho
end
end V
end Go.Proofs.YtbgfhaahhdnogaaGreat
