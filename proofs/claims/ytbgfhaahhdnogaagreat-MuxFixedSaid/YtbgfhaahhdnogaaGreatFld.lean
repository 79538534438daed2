/- Fields of the elements of a row of the call's own, by their -/
import Derived.Test.YtbgfhaahhdnogaaGreatAppd
namespace Go.Proofs.YtbgfhaahhdnogaaGreat
namespace V
section
variable {P:Program} {N n0:Nat} {fx:Fx} {its aM:List Item} {κ:List Conc} {w:World} {tt:TT} {env:bK} {α:Type} {sz:Nat} {E:TypeId} {R:RT α} [dD R] {d:Option Nat} {t:TypeId} {ps:String} {af:Array Edge} {g:Option (Nat×Bool)}
theorem Q8(bX:dS P tt){s:TypeId}{x:Operand}{f i o off:Nat}{iv:Int}{l:List α}{e:α}(hx:jd env x=some (vp i o))(hi:its[i]? = some (.o sz E R l))(he:idx l iv=some e)
 (hT:(match jl s tt with
   | some ⟨.struct fs,_,_,_,_⟩=>(match fs[f]? with
     | some fd=>(match jl fd.type tt with
       | some ti=>Nat.beq fd.offset off && !(Nat.beq ti.size 0)
       | none=>false)
     | none=>false)
   | _=>false)=true):Eff P N n0 fx env its ⟨d,.fieldAddr s x f,t,ps,af,g⟩ (some (vp i (o+off))) its:=fun κ w S a xU=>by
 split at hT
 ·rename_i fs _ _ _ _ hs
  split at hT
  ·rename_i fd hf
   split at hT
   ·rename_i ti ht
    simp only[Bool.and_eq_true,Bool.not_eq_true',Nat.beq_eq]at hT
    obtain⟨hof,h0⟩:=hT
    obtain⟨c,hc,hok⟩:=S.gG hi
    cases c with
    | r A n c=>
      obtain⟨hn,ho⟩:=hok
      obtain⟨_,_,Zu⟩:=oq he
      rcases fV ho with⟨rfl,rfl,rfl⟩ | ⟨b,pre,cur,post,fz,rfl,_⟩
      ·simp at Zu
      have hx':=eD (κ:=κ) hx
      simp only[SV.den,Cell.den,hc]at hx'
      obtain⟨info,z',Cu,hsi,_⟩:=(bX.get ht).info
      have hrun:=uM (N:=N) (d:=d) (t:=t) (ps:=ps) (af:=af) (g:=g) (w:=w) (BA (bX.get hs).und hf Cu (fun e=>by rw[← hsi,e]at h0;cases h0) hof) hx' (add_add _ _ _)
      refine .inl ⟨_,w,hrun a xU,[],fun z hz=>?_,by rw[List.append_nil];exact S⟩
      injection hz with hz
      subst hz
      simp only[SV.den,Cell.den,List.append_nil,hc]
    | _=>exact hok.elim
   ·cases hT
  ·cases hT
 ·cases hT
end
end V
end Go.Proofs.YtbgfhaahhdnogaaGreat
