/- An element of a package-level array of integers is read. -/
import Derived.Test.YtbdhonofhlpdoaaDoorRow
namespace Go.Proofs.YtbdhonofhlpdoaaDoor
namespace V
section
variable {P:Program} {N n0:Nat} {fx:Fx} {its its':List Item} {κ:List Conc} {w:World} {tt:TT} {env:Env'}
theorem e_gix (htt:TTOk P tt) {d:Option Nat} {t:TypeId} {ps:String} {af:Array Edge} {gd:Option (Nat×Bool)} {ty E:TypeId} {y:Operand} {k kk:IntKind} {iv v:Int} {g:Nat} {l:List Int}
    (hg:globs.lookup g=some (l.map (Value.int kk))) (hy:evS env y=some (vi k iv)) (hi:idx l iv=some v)
    (hT:(match lkT ty tt,lkT E tt with
      | some ⟨.array n E',_,_,_,_⟩,some ti=>Nat.beq n l.length&&Nat.beq E' E&&Nat.beq ti.size 1
      | _,_=>false)=true) :
    Eff P N n0 fx env its ⟨d,.indexAddr ty (.global g) y,t,ps,af,gd⟩ (some (vp its.length 0)) (its++[.elt none false [ci kk v]]):=fun κ w S a ha=>by
  obtain⟨h0,h1,hi⟩:=idx_some hi
  split at hT
  · rename_i n E' _ _ _ _ ti ht hte
    simp only [Bool.and_eq_true,Nat.beq_eq] at hT
    obtain⟨⟨hn,rfl⟩,hsz⟩:=hT
    have hy':=evS_den (κ:=κ) hy
    simp only [SV.den,Cell.den] at hy'
    have hev:a.eval (.global g) = .pointer (some ⟨g,0,none⟩):=rfl
    have hrun:(Instr.indexAt ty (.pointer (some ⟨g,0,none⟩)) (.int k iv)).run P w = .ok (.pointer (some ⟨g,iv.toNat,none⟩)) w:=by
      have h2:iv<(n:Int):=by rw [hn]; exact h1
      simp [Instr.indexAt,Instr.sureAddr,asIntOf,run_underlying (htt.get ht).und,h0,h2,(htt.get hte).size,Addr.add_lit,hsz]
    have hmem:∃p∈globs,p.1=g∧p.2=l.map (Value.int kk):=by
      revert hg
      generalize globs=G
      intro hg
      induction G with
      | nil=>cases hg
      | cons q G ih=>
        obtain⟨q1,q2⟩:=q
        simp only [List.lookup] at hg
        split at hg
        · rename_i hb
          injection hg with hg
          exact⟨_,List.mem_cons_self ..,(by simpa using hb:g=q1).symm,hg⟩
        · obtain⟨p,hp,h⟩:=ih hg
          exact⟨p,List.mem_cons_of_mem _ hp,h⟩
    obtain⟨p,hp,rfl,hp2⟩:=hmem
    obtain⟨_,g1,g2,g3⟩:=fx.gl.now S.ctx p hp
    have hcell:w.cell? ⟨p.1,iv.toNat,none⟩=some (.int kk v):=g3 iv.toNat _ (by rw [hp2,List.getElem?_map,hi]; rfl)
    have hat:At (Mu fx.U0 (Lof its κ)) w ⟨p.1,iv.toNat,none⟩ [.int kk v]:=⟨fun h=>h.elim g1 g2,fun j u hu=>by
      cases j with
      | zero=>
        simp at hu
        subst hu
        rw [ad_zero]
        exact hcell
      | succ j=>simp at hu⟩
    refine .inl ⟨.pointer (some ⟨p.1,iv.toNat,none⟩),w,?_,[.a ⟨p.1,iv.toNat,none⟩],fun z hz=>?_,S.more rfl (one_get (P:=fun (it:Item) (c:Conc)=>own1 it c=none) rfl) rfl (one_get (P:=fun (it:Item) (c:Conc)=>OK _ _ w it c) ⟨hat,by simp⟩)⟩
    · simp only [execOp,hev,ha.ev hy',Sem.run_bind,hrun,Result.andThen_ok]
      rfl
    · injection hz with hz
      subst hz
      simp only [SV.den,Cell.den]
      rw [List.getElem?_append_right (by rw [S.len]; exact Nat.le_refl _),S.len]
      simp [ad_zero]
  · cases hT
end
end V
end Go.Proofs.YtbdhonofhlpdoaaDoor
