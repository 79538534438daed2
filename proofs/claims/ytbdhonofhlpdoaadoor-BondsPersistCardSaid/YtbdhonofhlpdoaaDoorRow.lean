/- Pointers into a row of the call's own that nothing is known -/
import Derived.Test.YtbdhonofhlpdoaaDoorArr
namespace Go.Proofs.YtbdhonofhlpdoaaDoor
namespace V
section
variable {P:Program} {N n0:Nat} {fx:Fx} {its its':List Item} {κ:List Conc} {w:World} {tt:TT} {env:Env'} {α:Type} {sz:Nat} {E:TypeId} {R:RT α} [GRep R] {d:Option Nat} {t:TypeId} {ps:String} {af:Array Edge} {g:Option (Nat×Bool)}
theorem e_ixp (htt:TTOk P tt) {ty:TypeId} {x y:Operand} {i by_:Nat} {k:IntKind} {iv:Int} {l:List α} {e:α} (hx:evS env x=some (vs i)) (hi:its[i]? = some (.own sz E R l)) (hy:evS env y=some (vi k iv)) (he:idx l iv=some e) (hT:TRow tt ty E sz by_=true) :
    Eff P N n0 fx env its ⟨d,.indexAddr ty x y,t,ps,af,g⟩ (some (vp i (iv.toNat * sz))) its:=fun κ w S a haa=>by
  obtain⟨hu,_,hpos,hs⟩:=trow_get htt hT
  obtain⟨c,hc,hok⟩:=S.conc hi
  cases c with
  | r A n c=>
    obtain⟨hn,ho⟩:=hok
    subst hn
    have hx':=evS_den (κ:=κ) hx
    simp only [SV.den,Cell.den,hc] at hx'
    obtain⟨b,o,es,rfl,hr,_,_,_⟩:=ix_own (P:=P) (N:=N) hu hs hx' (evS_den hy) ho he
    refine .inl ⟨_,w,hr a haa,[],fun z hz=>?_,by rw [List.append_nil]; exact S⟩
    injection hz with hz
    subst hz
    simp only [SV.den,Cell.den,List.append_nil,hc,add_lit]
  | _=>exact hok.elim
theorem e_ldp [GOpen R] (htt:TTOk P tt) {ty:TypeId} {x:Operand} {i:Nat} {iv:Int} {l:List α} {e:α} (hx:evS env x=some (vp i (iv.toNat * sz))) (hi:its[i]? = some (.own sz E R l)) (he:idx l iv=some e) (hpos:(Nat.blt 0 sz && !its.any Item.ow)=true)
    (hT:(match lkT ty tt with
      | some ti=>ti.agg&&Nat.beq ti.size sz
      | none=>false)=true) (hl:((GOpen.its R e).any Item.ow)=false) :
    Eff P N n0 fx env its ⟨d,.load ty x,t,ps,af,g⟩ (some (.g (GOpen.cells R e (its.length+1)))) (kl (its++(.elt (some (i,iv)) true (GOpen.cells R e (its.length+1))::GOpen.its R e))):=fun κ w S a haa=>by
  simp only [Bool.and_eq_true,Bool.not_eq_true'] at hpos
  obtain⟨hpos,how⟩:=hpos
  split at hT
  · rename_i ti ht
    simp only [Bool.and_eq_true,Nat.beq_eq] at hT
    obtain⟨hag,hsz⟩:=hT
    obtain⟨c,hc,hok⟩:=S.conc hi
    cases c with
    | r A n c=>
      obtain⟨hn,ho⟩:=hok
      obtain⟨h0,h1,hxx⟩:=idx_some he
      rcases own_form ho with ⟨rfl,rfl,rfl⟩ | ⟨b,pre,cur,post,fz,rfl,_,hg,_,_,hsize,hes⟩
      · simp at hxx
      obtain⟨e1,hl1,hr,hcell⟩:=Els.get l _ iv.toNat e hes hxx
      have hpos':0<sz:=by simpa [Nat.blt_eq] using hpos
      have hne:e1≠[]:=fun q=>by rw [q] at hl1; simp at hl1; omega
      have hcl:∀j u,e1[j]? = some u→w.cell? (((⟨b,pre.length,none⟩:Addr).add (iv.toNat * sz)).add j)=some u:=by
        intro j u hu
        have:=hcell j u hu
        rw [add_add,add_lit]
        rw [List.getElem?_take] at this
        split at this
        · have hj:=(List.getElem?_eq_some_iff.1 this).1
          simp only [World.cell?,hg]
          rw [← this,← row_get (pre:=pre) (post:=post) hj]
          simp
        · cases this
      have hat:At (fun b=>true=false∧Mu fx.U0 (Lof its κ) b) w ((⟨b,pre.length,none⟩:Addr).add (iv.toNat * sz)) e1:=⟨fun h=>(by cases h.1),hcl⟩
      obtain⟨κx,S'⟩:=el_more (ow:=true) S hat hne hr (List.getElem?_eq_some_iff.1 hi).1 ⟨_,n,c,hc,by rw [hl1],h0,by omega⟩
      have hx':=evS_den (κ:=κ) hx
      simp only [SV.den,Cell.den,hc] at hx'
      have hrun:=rv_loadAN (P:=P) (N:=N) (d:=d) (t:=t) (ps:=ps) (af:=af) (g:=g) (o:=0) (n:=sz) (vs:=e1) (ty:=ty) (l:=denE κ env) (x:=x) (w:=w) (ad:=(⟨b,pre.length,none⟩:Addr).add (iv.toNat * sz)) (es:=e1) (U:=fun b=>true=false∧Mu fx.U0 (Lof its κ) b) (fun w=>by have:=(htt.get ht).agg w; rw [hag] at this; exact this) (fun w=>by have:=(htt.get ht).size w; rw [hsz] at this; exact this) (by rw [hx',add_add]; rfl) hat (by rw [List.drop_zero,List.take_of_length_le (by omega)]) hl1
      refine .inl ⟨_,w,hrun a haa,κx,fun z hz=>?_,S'.kill⟩
      injection hz with hz
      subst hz
      obtain⟨c',hc',hok'⟩:=S'.conc (i:=its.length) (by rw [List.getElem?_append_right (Nat.le_refl _),Nat.sub_self]; rfl)
      cases c' with
      | a ad=>
        obtain⟨hat',_,A',n',c2,hA',had,_,_⟩:=hok'
        have hil:=(List.getElem?_eq_some_iff.1 hc).1
        rw [List.getElem?_append_left hil,hc] at hA'
        injection hA' with hA'
        injection hA' with hA' _ _
        injection hA' with hA'
        subst hA'
        have hlen:(GOpen.cells R e (its.length+1)).length=e1.length:=by
          obtain⟨κs,k1,k2,_⟩:=GOpen.op hr
          have q1:=congrArg List.length (k2 (κ++[.a ad]))
          rw [List.length_append,List.length_singleton,S.len,List.length_map] at q1
          exact q1.symm
        have hcs:e1=(GOpen.cells R e (its.length+1)).map (Cell.den (κ++κx)):=by
          refine List.ext_getElem? fun k=>?_
          by_cases hk:k<e1.length
          · obtain⟨u,hu⟩:∃u,((GOpen.cells R e (its.length+1)).map (Cell.den (κ++κx)))[k]? = some u:=⟨_,List.getElem?_eq_getElem (by rw [List.length_map,hlen]; exact hk)⟩
            have q3:=hat'.2 k u hu
            have q4:=hcl k _ (List.getElem?_eq_getElem hk)
            rw [had,hlen,hl1,q4] at q3
            rw [hu,List.getElem?_eq_getElem hk]
            exact q3
          · rw [List.getElem?_eq_none (by omega),List.getElem?_eq_none (by rw [List.length_map,hlen]; omega)]
        rw [hcs]
        rfl
      | _=>exact hok'.elim
    | _=>exact hok.elim
  · cases hT
theorem e_ldp1 [GOpen R] (htt:TTOk P tt) {ty:TypeId} {x:Operand} {i:Nat} {iv:Int} {l:List α} {e:α} {cc:Cell} (hx:evS env x=some (vp i (iv.toNat * 1))) (hi:its[i]? = some (.own 1 E R l)) (he:idx l iv=some e) (hcc:GOpen.cells R e (its.length+1)=[cc]) (hpos:(!its.any Item.ow)=true)
    (hT:(match lkT ty tt with
      | some ti=>!ti.agg
      | none=>false)=true) (hl:((GOpen.its R e).any Item.ow)=false) :
    Eff P N n0 fx env its ⟨d,.load ty x,t,ps,af,g⟩ (some (.c cc)) (kl (its++(.elt (some (i,iv)) true (GOpen.cells R e (its.length+1))::GOpen.its R e))):=fun κ w S a haa=>by
  have how:its.any Item.ow=false:=by simpa using hpos
  split at hT
  · rename_i ti ht
    have hag:ti.agg=false:=by simpa using hT
    obtain⟨c,hc,hok⟩:=S.conc hi
    cases c with
    | r A n c=>
      obtain⟨hn,ho⟩:=hok
      obtain⟨h0,h1,hxx⟩:=idx_some he
      rcases own_form ho with ⟨rfl,rfl,rfl⟩ | ⟨b,pre,cur,post,fz,rfl,_,hg,_,_,hsize,hes⟩
      · simp at hxx
      obtain⟨e1,hl1,hr,hcell⟩:=Els.get l _ iv.toNat e hes hxx
      obtain⟨u1,hu1⟩:∃u1,e1[0]? = some u1:=⟨_,List.getElem?_eq_getElem (by omega)⟩
      have hne:e1≠[]:=fun q=>by rw [q] at hl1; simp at hl1
      have hcl:∀j u,e1[j]? = some u→w.cell? (((⟨b,pre.length,none⟩:Addr).add (iv.toNat * 1)).add j)=some u:=by
        intro j u hu
        have:=hcell j u hu
        rw [add_add,add_lit]
        rw [List.getElem?_take] at this
        split at this
        · have hj:=(List.getElem?_eq_some_iff.1 this).1
          simp only [World.cell?,hg]
          rw [← this,← row_get (pre:=pre) (post:=post) hj]
          simp
        · cases this
      have hat:At (fun b=>true=false∧Mu fx.U0 (Lof its κ) b) w ((⟨b,pre.length,none⟩:Addr).add (iv.toNat * 1)) e1:=⟨fun h=>(by cases h.1),hcl⟩
      obtain⟨κx,S'⟩:=el_more (ow:=true) S hat hne hr (List.getElem?_eq_some_iff.1 hi).1 ⟨_,n,c,hc,by rw [hl1],h0,by omega⟩
      have hx':=evS_den (κ:=κ) hx
      simp only [SV.den,Cell.den,hc] at hx'
      have hrun:=rv_loadA1 (P:=P) (N:=N) (d:=d) (t:=t) (ps:=ps) (af:=af) (g:=g) (o:=0) (v:=u1) (ty:=ty) (l:=denE κ env) (x:=x) (w:=w) (ad:=(⟨b,pre.length,none⟩:Addr).add (iv.toNat * 1)) (es:=e1) (U:=fun b=>true=false∧Mu fx.U0 (Lof its κ) b) (fun w=>by have:=(htt.get ht).agg w; rw [hag] at this; exact this) (by rw [hx',add_add]; rfl) hat hu1
      refine .inl ⟨_,w,hrun a haa,κx,fun z hz=>?_,S'.kill⟩
      injection hz with hz
      subst hz
      obtain⟨c',hc',hok'⟩:=S'.conc (i:=its.length) (by rw [List.getElem?_append_right (Nat.le_refl _),Nat.sub_self]; rfl)
      cases c' with
      | a ad=>
        obtain⟨hat',_,A',n',c2,hA',had,_,_⟩:=hok'
        have hil:=(List.getElem?_eq_some_iff.1 hc).1
        rw [List.getElem?_append_left hil,hc] at hA'
        injection hA' with hA'
        injection hA' with hA' _ _
        injection hA' with hA'
        subst hA'
        have hlen:(GOpen.cells R e (its.length+1)).length=e1.length:=by
          obtain⟨κs,k1,k2,_⟩:=GOpen.op hr
          have q1:=congrArg List.length (k2 (κ++[.a ad]))
          rw [List.length_append,List.length_singleton,S.len,List.length_map] at q1
          exact q1.symm
        have hcs:e1=(GOpen.cells R e (its.length+1)).map (Cell.den (κ++κx)):=by
          refine List.ext_getElem? fun k=>?_
          by_cases hk:k<e1.length
          · obtain⟨u,hu⟩:∃u,((GOpen.cells R e (its.length+1)).map (Cell.den (κ++κx)))[k]? = some u:=⟨_,List.getElem?_eq_getElem (by rw [List.length_map,hlen]; exact hk)⟩
            have q3:=hat'.2 k u hu
            have q4:=hcl k _ (List.getElem?_eq_getElem hk)
            rw [had,hlen,hl1,q4] at q3
            rw [hu,List.getElem?_eq_getElem hk]
            exact q3
          · rw [List.getElem?_eq_none (by omega),List.getElem?_eq_none (by rw [List.length_map,hlen]; omega)]
        rw [hcc] at hcs
        rw [hcs] at hu1
        simp only [List.map_cons,List.map_nil,List.getElem?_cons_zero,Option.some.injEq] at hu1
        rw [← hu1]
        rfl
      | _=>exact hok'.elim
    | _=>exact hok.elim
  · cases hT
def EffS (P:Program) (N n0:Nat) (fx:Fx) (env:Env') (its:List Item) (o:Oper) (its':List Item):Prop:=
  ∀κ w,St n0 fx env its κ w→∀a,Holds N (denE κ env) a→∃w',(execOp a.eval o).run P w = .ok .skip w'∧St n0 fx env its' κ w'
theorem SW.effS {ops:Array Oper} {Kn:Act→World→Prop} {ks bs bs':List Bool} {itsK:List Item} {κ1:List Conc} {fuel i:Nat} {op:Op} {t:TypeId} {ps:String} {af:Array Edge} (D:DK ks itsK κ1) (hi:ops[i]? = some ⟨none,op,t,ps,af,none⟩) (he:EffS P N n0 fx env its ⟨none,op,t,ps,af,none⟩ its') (hb:bs.set i true=bs') (hK:mask ks its'=itsK)
    (hk:SD P ops Kn ks itsK κ1 fuel bs' N n0 fx env its'):SW P ops Kn ks itsK κ1 fuel bs N n0 fx env its i:=fun κx w S a ha=>by
  obtain⟨w',h1,S'⟩:=he _ w S a ha
  unfold wpOp
  simp only [hi,Region.wanted,if_true]
  refine .inl ?_
  unfold Oper.wp
  rw [h1]
  have h4:=hk κx w' S' _ ha
  rw [← hb] at h4
  have h5:Kno itsK κ1 w'∧wpAnyH P .any ops (QN fx.px Kn) (Kno itsK κ1) fuel (bs.toArray.setIfInBounds i true) a w':=⟨S'.knoK hK D.len D.sc,by simpa using h4⟩
  exact h5
theorem e_stp (htt:TTOk P tt) {ty:TypeId} {x y:Operand} {i:Nat} {iv:Int} {v:SV} {cs:List Cell} {l l':List α} {e:α}
    (hx:evS env x=some (vp i (iv.toNat * sz))) (hi:its[i]? = some (.own sz E R l)) (hy:evS env y=some v) (hv:v.cells its=some cs) (hc:Clo its R cs e)
    (hl:(Nat.beq cs.length sz && !its.any Item.ow)=true) (hT:(match lkT ty tt with
      | some ti=>Nat.beq ti.size sz
      | none=>false)=true) (hu:upd l iv e=some l') :
    EffS P N n0 fx env its ⟨none,.store ty x y,t,ps,af,g⟩ (its.set i (.own sz E R l')):=fun κ w S a ha=>by
  simp only [Bool.and_eq_true,Nat.beq_eq,Bool.not_eq_true'] at hl
  obtain⟨hl2,how⟩:=hl
  split at hT
  · rename_i ti ht
    simp only [Nat.beq_eq] at hT
    obtain⟨c,hci,hoki⟩:=S.conc hi
    cases c with
    | r A n c=>
      obtain⟨hn,ho⟩:=hoki
      rcases own_form ho with ⟨rfl,_,rfl⟩ | ⟨b,pre,cur,post,fz,rfl,_⟩
      · obtain⟨_,h1,_⟩:=upd_some hu
        simp at h1
        omega
      · have hx':=evS_den (κ:=κ) hx
        simp only [SV.den,Cell.den,hci] at hx'
        have hx2:ev (denE κ env) x=some (.pointer (some ⟨b,pre.length+iv.toNat * sz,none⟩)):=by
          rw [hx',add_lit]
        have hL:(Lof its κ)[i]? = some (some b):=Lof_get hi hci
        have hrun:=rs_storeEl (P:=P) (N:=N) (t:=t) (ps:=ps) (af:=af) (g:=g) (fun w=>by have:=(htt.get ht).size w; rw [hT] at this; exact this) hx2 (evS_den hy) (cells_den S.kno hv) (by simpa using hl2) ho (hc S) hu hL S.ctx
        obtain⟨w',hr,hst⟩:=hrun a ha
        have hlen:l'.length=l.length:=by obtain⟨_,_,rfl⟩:=upd_some hu; simp
        exact⟨w',hr,ownTurned_st S how hi hci hn hlen hst⟩
    | _=>exact hoki.elim
  · cases hT
theorem e_subo (htt:TTOk P tt) {ty:TypeId} {x:Operand} {lo hi':Option Operand} {i by_:Nat} {a b:Int} {l l':List α} (hx:evS env x=some (vs i)) (hi:its[i]? = some (.own sz E R l)) (hlo:bndC env 0 lo=some a) (hhi:bndC env (len l) hi'=some b)
    (hs:sub l a b=some l') (hT:(TRow tt ty E sz by_ && !its.any Item.ow)=true):Eff P N n0 fx env its ⟨d,.slice ty x lo hi' none,t,ps,af,g⟩ (some (vs its.length)) (its.set i .gone++[.own sz E R l']):=fun κ w S ac haa=>by
  simp only [Bool.and_eq_true,Bool.not_eq_true'] at hT
  obtain⟨hT,how⟩:=hT
  obtain⟨hu,_,hpos,hsz⟩:=trow_get htt hT
  obtain⟨c,hc,hok⟩:=S.conc hi
  cases c with
  | r A n c=>
    obtain⟨hn,ho⟩:=hok
    subst hn
    have hx':=evS_den (κ:=κ) hx
    simp only [SV.den,Cell.den,hc] at hx'
    have bnd:∀(q:Option Operand) (dflt r:Int),bndC env dflt q=some r→∃qv,q.mapM (ev (denE κ env))=some qv∧((qv=none∧r=dflt)∨∃k,qv=some (.int k r)):=by
      intro q dflt r h
      cases q with
      | none=>simp only [bndC,Option.some.injEq] at h; exact⟨none,rfl,.inl ⟨rfl,h.symm⟩⟩
      | some x=>
        simp only [bndC] at h
        split at h
        · rename_i k n hx
          injection h with h; subst h
          exact⟨some (.int k n),by simp [evS_den hx,SV.den,Cell.den],.inr ⟨k,rfl⟩⟩
        · cases h
    obtain⟨lov,hl1,hl2⟩:=bnd lo 0 a hlo
    obtain⟨hiv,hh1,hh2⟩:=bnd hi' (len l) b hhi
    exact Does.of_runW (rw_subo hu hsz hx' hl1 hh1 hl2 hh2 ho hs (Lof_get hi hc) S.ctx) haa fun u w' h=>appended_st S how hi hc h
  | _=>exact hok.elim
theorem e_subd (htt:TTOk P tt) {ty:TypeId} {x:Operand} {lo hi':Option Operand} {i by_:Nat} {a b:Int} {l l':List α} (hx:evS env x=some (vs i)) (hi:its[i]? = some (.own sz E R l)) (hlo:bndC env 0 lo=some a) (hhi:bndC env (len l) hi'=some b)
    (hs:sub l a b=some l') (hT:TRow tt ty E sz by_=true):Eff P N n0 fx env its ⟨d,.slice ty x lo hi' none,t,ps,af,g⟩ (some (vs its.length)) (its++[.gone]):=fun κ w S ac haa=>by
  obtain⟨hu,_,hpos,hsz⟩:=trow_get htt hT
  obtain⟨c,hc,hok⟩:=S.conc hi
  cases c with
  | r A n c=>
    obtain⟨hn,ho⟩:=hok
    subst hn
    have hx':=evS_den (κ:=κ) hx
    simp only [SV.den,Cell.den,hc] at hx'
    have bnd:∀(q:Option Operand) (dflt r:Int),bndC env dflt q=some r→∃qv,q.mapM (ev (denE κ env))=some qv∧((qv=none∧r=dflt)∨∃k,qv=some (.int k r)):=by
      intro q dflt r h
      cases q with
      | none=>simp only [bndC,Option.some.injEq] at h; exact⟨none,rfl,.inl ⟨rfl,h.symm⟩⟩
      | some x=>
        simp only [bndC] at h
        split at h
        · rename_i k n hx
          injection h with h; subst h
          exact⟨some (.int k n),by simp [evS_den hx,SV.den,Cell.den],.inr ⟨k,rfl⟩⟩
        · cases h
    obtain⟨lov,hl1,hl2⟩:=bnd lo 0 a hlo
    obtain⟨hiv,hh1,hh2⟩:=bnd hi' (len l) b hhi
    obtain⟨A',c',hrun,_⟩:=sl_sub (N:=N) hu hsz hx' hl1 hh1 hl2 hh2 (ho.toSl (U':=fun _=>False) (fun _ _ h=>h) (fun _ h=>h.elim)) hs
    refine .inl ⟨_,w,hrun ac haa,[.r A' l'.length c'],fun x hx=>?_,S.more rfl (one_get (P:=fun (it:Item) (c:Conc)=>own1 it c=none) rfl) rfl (one_get (P:=fun (it:Item) (c:Conc)=>OK _ _ w it c) trivial)⟩
    injection hx with hx; subst hx
    simp only [SV.den,Cell.den]
    rw [List.getElem?_append_right (by rw [S.len]; exact Nat.le_refl _),S.len]
    simp
  | _=>exact hok.elim
end
end V
end Go.Proofs.YtbdhonofhlpdoaaDoor
