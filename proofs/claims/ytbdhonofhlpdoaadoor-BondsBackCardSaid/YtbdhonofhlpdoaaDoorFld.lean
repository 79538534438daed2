/- Fields of the elements of a row of the call's own, by their -/
import Derived.Test.YtbdhonofhlpdoaaDoorAppd
namespace Go.Proofs.YtbdhonofhlpdoaaDoor
namespace V
section
variable {P:Program} {N n0:Nat} {fx:Fx} {its its':List Item} {κ:List Conc} {w:World} {tt:TT} {env:Env'} {α:Type} {sz:Nat} {E:TypeId} {R:RT α} [GRep R] {d:Option Nat} {t:TypeId} {ps:String} {af:Array Edge} {g:Option (Nat×Bool)}
theorem e_fap (htt:TTOk P tt) {s:TypeId} {x:Operand} {f i o off:Nat} {iv:Int} {l:List α} {e:α} (hx:evS env x=some (vp i o)) (hi:its[i]? = some (.own sz E R l)) (he:idx l iv=some e)
    (hT:(match lkT s tt with
      | some ⟨.struct fs,_,_,_,_⟩=>(match fs[f]? with
        | some fd=>(match lkT fd.type tt with
          | some ti=>Nat.beq fd.offset off && !(Nat.beq ti.size 0)
          | none=>false)
        | none=>false)
      | _=>false)=true):Eff P N n0 fx env its ⟨d,.fieldAddr s x f,t,ps,af,g⟩ (some (vp i (o+off))) its:=fun κ w S a haa=>by
  split at hT
  · rename_i fs _ _ _ _ hs
    split at hT
    · rename_i fd hf
      split at hT
      · rename_i ti ht
        simp only [Bool.and_eq_true,Bool.not_eq_true',Nat.beq_eq] at hT
        obtain⟨hof,h0⟩:=hT
        obtain⟨c,hc,hok⟩:=S.conc hi
        cases c with
        | r A n c=>
          obtain⟨hn,ho⟩:=hok
          obtain⟨_,_,hxx⟩:=idx_some he
          rcases own_form ho with ⟨rfl,rfl,rfl⟩ | ⟨b,pre,cur,post,fz,rfl,_⟩
          · simp at hxx
          have hx':=evS_den (κ:=κ) hx
          simp only [SV.den,Cell.den,hc] at hx'
          obtain⟨info,z',hinf,hsi,_⟩:=(htt.get ht).info
          have hrun:=rv_fieldAddr (N:=N) (d:=d) (t:=t) (ps:=ps) (af:=af) (g:=g) (w:=w) (fieldAt_of (htt.get hs).und hf hinf (fun e=>by rw [← hsi,e] at h0; cases h0) hof) hx' (add_add _ _ _)
          refine .inl ⟨_,w,hrun a haa,[],fun z hz=>?_,by rw [List.append_nil]; exact S⟩
          injection hz with hz
          subst hz
          simp only [SV.den,Cell.den,List.append_nil,hc]
        | _=>exact hok.elim
      · cases hT
    · cases hT
  · cases hT
theorem e_ldf [GOpen R] (htt:TTOk P tt) {ty:TypeId} {x:Operand} {i o:Nat} {iv:Int} {l:List α} {e:α} {cc:Cell} (hx:evS env x=some (vp i (iv.toNat * sz+o))) (hi:its[i]? = some (.own sz E R l)) (he:idx l iv=some e) (hcc:(GOpen.cells R e (its.length+1))[o]? = some cc) (hpos:(Nat.blt 0 sz && !its.any Item.ow)=true)
    (hT:(match lkT ty tt with
      | some ti=>!ti.agg
      | none=>false)=true) (hl:((GOpen.its R e).any Item.ow)=false) :
    Eff P N n0 fx env its ⟨d,.load ty x,t,ps,af,g⟩ (some (.c cc)) (kl (its++(.elt (some (i,iv)) true (GOpen.cells R e (its.length+1))::GOpen.its R e))):=fun κ w S a haa=>by
  simp only [Bool.and_eq_true,Bool.not_eq_true'] at hpos
  obtain⟨hpos,how⟩:=hpos
  have hpos':0<sz:=by simpa [Nat.blt_eq] using hpos
  split at hT
  · rename_i ti ht
    have hag:ti.agg=false:=by simpa using hT
    obtain⟨c,hc,hok⟩:=S.conc hi
    cases c with
    | r A n c=>
      obtain⟨hn,ho⟩:=hok
      obtain⟨h0,h1,hxx⟩:=idx_some he
      rcases own_form ho with ⟨rfl,rfl,rfl⟩ | ⟨b,pre,cur,post,fz,rfl,_,hg,_,_,hsize,hes⟩
      · simp at hxx
      obtain⟨e1,hl1,hr,hcell⟩:=Els.get l _ iv.toNat e hes hxx
      have hne:e1≠[]:=fun q=>by rw [q] at hl1; simp at hl1; omega
      have hcl:∀j u,e1[j]? = some u→w.cell? (((⟨b,pre.length,none⟩:Addr).add (iv.toNat * sz)).add j)=some u:=by
        intro j u hu
        have:=hcell j u hu
        rw [add_add,add_lit]
        rw [List.getElem?_take] at this
        split at this
        · have hj:=(List.getElem?_eq_some_iff.1 this).1
          simp only [World.cell?,hg]
          rw [← this,← row_get (pre:=pre) (post:=post) hj]
          simp
        · cases this
      have hat:At (fun b=>true=false∧Mu fx.U0 (Lof its κ) b) w ((⟨b,pre.length,none⟩:Addr).add (iv.toNat * sz)) e1:=⟨fun h=>(by cases h.1),hcl⟩
      obtain⟨κx,S'⟩:=el_more (ow:=true) S hat hne hr (List.getElem?_eq_some_iff.1 hi).1 ⟨_,n,c,hc,by rw [hl1],h0,by omega⟩
      have hx':=evS_den (κ:=κ) hx
      simp only [SV.den,Cell.den,hc] at hx'
      obtain⟨c',hc',hok'⟩:=S'.conc (i:=its.length) (by rw [List.getElem?_append_right (Nat.le_refl _),Nat.sub_self]; rfl)
      cases c' with
      | a ad=>
        obtain⟨hat',_,A',n',c2,hA',had,_,_⟩:=hok'
        have hil:=(List.getElem?_eq_some_iff.1 hc).1
        rw [List.getElem?_append_left hil,hc] at hA'
        injection hA' with hA'
        injection hA' with hA' _ _
        injection hA' with hA'
        subst hA'
        have hlen:(GOpen.cells R e (its.length+1)).length=e1.length:=by
          obtain⟨κs,k1,k2,_⟩:=GOpen.op hr
          have q1:=congrArg List.length (k2 (κ++[.a ad]))
          rw [List.length_append,List.length_singleton,S.len,List.length_map] at q1
          exact q1.symm
        have hcs:e1=(GOpen.cells R e (its.length+1)).map (Cell.den (κ++κx)):=by
          refine List.ext_getElem? fun k=>?_
          by_cases hk:k<e1.length
          · obtain⟨u,hu⟩:∃u,((GOpen.cells R e (its.length+1)).map (Cell.den (κ++κx)))[k]? = some u:=⟨_,List.getElem?_eq_getElem (by rw [List.length_map,hlen]; exact hk)⟩
            have q3:=hat'.2 k u hu
            have q4:=hcl k _ (List.getElem?_eq_getElem hk)
            rw [had,hlen,hl1,q4] at q3
            rw [hu,List.getElem?_eq_getElem hk]
            exact q3
          · rw [List.getElem?_eq_none (by omega),List.getElem?_eq_none (by rw [List.length_map,hlen]; omega)]
        obtain⟨u1,hu1⟩:∃u1,e1[o]? = some u1:=⟨cc.den (κ++κx),by rw [hcs,List.getElem?_map,hcc]; rfl⟩
        have hu2:=hu1
        rw [hcs,List.getElem?_map,hcc] at hu2
        simp only [Option.map_some,Option.some.injEq] at hu2
        have hrun:=rv_loadA1 (P:=P) (N:=N) (d:=d) (t:=t) (ps:=ps) (af:=af) (g:=g) (o:=o) (v:=u1) (ty:=ty) (l:=denE κ env) (x:=x) (w:=w) (ad:=(⟨b,pre.length,none⟩:Addr).add (iv.toNat * sz)) (es:=e1) (U:=fun b=>true=false∧Mu fx.U0 (Lof its κ) b) (fun w=>by have:=(htt.get ht).agg w; rw [hag] at this; exact this) (by rw [hx',add_add]) hat hu1
        refine .inl ⟨_,w,hrun a haa,κx,fun z hz=>?_,S'.kill⟩
        injection hz with hz
        subst hz
        rw [← hu2]
        rfl
      | _=>exact hok'.elim
    | _=>exact hok.elim
  · cases hT
end
end V
end Go.Proofs.YtbdhonofhlpdoaaDoor
