/- Fields of the elements of a row of the call's own, by their -/
import Derived.Test.YtbgfhaahhdnogaaGreatAppd
namespace Go.Proofs.YtbgfhaahhdnogaaGreat
namespace V
section
variable {P:Program} {N n0:Nat} {fx:Fx} {its aR:List Item} {κ:List Conc} {w:World} {tt:TT} {env:bP} {α:Type} {sz:Nat} {E:TypeId} {R:RT α} [dM R] {d:Option Nat} {t:TypeId} {ps:String} {af:Array Edge} {g:Option (Nat×Bool)}
theorem UN(bZ:eu P tt){s:TypeId}{x}{f i o off:Nat}{iv l e}(hx:jN env x=some (vp i o))(hi:its[i]?=some (.o sz E R l))(he:idx l iv=some e)
 (hT:(match jU s tt with
   | some ⟨.struct fs,_,_,_,_⟩=>(match fs[f]? with
     | some fd=>(match jU fd.type tt with
       | some ti=>Nat.beq fd.offset off && !(Nat.beq ti.size 0)
       | none=>false)
     | none=>false)
   | _=>false)=true):Eff P N n0 fx env its ⟨d,.fieldAddr s x f,t,ps,af,g⟩ (some (vp i (o+off))) its:=fun κ w S a zw=>by
 split at hT
 .rename_i fs _ _ _ _ hs;split at hT
  .rename_i fd hf;split at hT
   .rename_i ti ht;simp only[Bool.and_eq_true,Bool.not_eq_true',Nat.beq_eq]at hT;obtain⟨hof,h0⟩:=hT;obtain⟨c,hc,hok⟩:=S.iy hi;cases c with
    | r A n c=>
      obtain⟨hn,ho⟩:=hok;obtain⟨_,_,hxx⟩:=pU he;rcases gU ho with⟨rfl,rfl,rfl⟩|⟨b,pre,cur,post,fz,rfl,_⟩
      .simp at hxx
      have hx':=eD (κ:=κ) hx;simp only[SV.den,Cell.den,hc]at hx';obtain⟨info,z',EF,hsi,_⟩:=(bZ.get ht).info;have hrun:=wu (N:=N) (d:=d) (t:=t) (ps:=ps) (af:=af) (g:=g) (w:=w) (Dm (bZ.get hs).und hf EF (fun e=>by rw[<-hsi,e]at h0;cases h0) hof) hx' (add_add _ _ _);refine .inl ⟨_,w,hrun a zw,[],fun z hz=>?_,by rw[List.append_nil];exact S⟩;injection hz with hz;subst hz;simp only[SV.den,Cell.den,List.append_nil,hc]
    | _=>exact hok.elim
   .cases hT
  .cases hT
 .cases hT
end
end V
end Go.Proofs.YtbgfhaahhdnogaaGreat
