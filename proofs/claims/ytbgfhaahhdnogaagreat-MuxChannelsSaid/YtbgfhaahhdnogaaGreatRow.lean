/- Pointers into a row of the call's own that nothing is known -/
import Derived.Test.YtbgfhaahhdnogaaGreatArr
namespace Go.Proofs.YtbgfhaahhdnogaaGreat
namespace V
section
variable {P:Program} {N n0:Nat} {fx:Fx} {its aR:List Item} {κ:List Conc} {w:World} {tt:TT} {env:bP} {α:Type} {sz:Nat} {E:TypeId} {R:RT α} [dM R] {d:Option Nat} {t:TypeId} {ps:String} {af:Array Edge} {g:Option (Nat×Bool)}
theorem nG(bZ:eu P tt){ty x y i dF k iv l e}(hx:jN env x=some (vs i))(hi:its[i]?=some (.o sz E R l))(hy:jN env y=some (vi k iv))(he:idx l iv=some e)(hT:EL tt ty E sz dF=true) :
 Eff P N n0 fx env its ⟨d,.indexAddr ty x y,t,ps,af,g⟩ (some (vp i (iv.toNat*sz))) its:=fun κ w S a zw=>by
 obtain⟨hu,_,hpos,hs⟩:=lX bZ hT;obtain⟨c,hc,hok⟩:=S.iy hi;cases c with
 | r A n c=>
   obtain⟨hn,ho⟩:=hok;subst hn;have hx':=eD (κ:=κ) hx;simp only[SV.den,Cell.den,hc]at hx';obtain⟨b,o,es,rfl,hr,_,_,_⟩:=aco (P:=P) (N:=N) hu hs hx' (eD hy) ho he;refine .inl ⟨_,w,hr a zw,[],fun z hz=>?_,by rw[List.append_nil];exact S⟩;injection hz with hz;subst hz;simp only[SV.den,Cell.den,List.append_nil,hc,add_lit]
 | _=>exact hok.elim
theorem FW[dw R](bZ:eu P tt){ty:TypeId}{x i iv l e}(hx:jN env x=some (vp i (iv.toNat*sz)))(hi:its[i]?=some (.o sz E R l))(he:idx l iv=some e)(hpos:(Nat.blt 0 sz && !its.any Item.ow)=true)
 (hT:(match jU ty tt with
   | some ti=>ti.agg&&Nat.beq ti.size sz
   | none=>false)=true) (hl:((dw.its R e).any Item.ow)=false) :
 Eff P N n0 fx env its ⟨d,.load ty x,t,ps,af,g⟩ (some (.g (dw.cells R e (its.length+1)))) (kl (its++(.elt (some (i,iv)) true (dw.cells R e (its.length+1))::dw.its R e))):=fun κ w S a zw=>by
 simp only[Bool.and_eq_true,Bool.not_eq_true']at hpos;obtain⟨hpos,how⟩:=hpos;split at hT
 .rename_i ti ht;simp only[Bool.and_eq_true,Nat.beq_eq]at hT;obtain⟨hag,hsz⟩:=hT;obtain⟨c,hc,hok⟩:=S.iy hi;cases c with
  | r A n c=>
    obtain⟨hn,ho⟩:=hok;obtain⟨h0,h1,hxx⟩:=pU he;rcases gU ho with⟨rfl,rfl,rfl⟩|⟨b,pre,cur,post,fz,rfl,_,hg,_,_,hsize,hes⟩
    .simp at hxx
    obtain⟨e1,hl1,hr,hcell⟩:=fJ.get l _ iv.toNat e hes hxx;have hpos':0<sz:=by simpa [Nat.blt_eq]using hpos
    have hne:e1≠[]:=fun q=>by rw[q]at hl1;simp at hl1;omega
    have hcl:∀j u,e1[j]?=some u->w.cell? (((⟨b,pre.length,none⟩:Addr).add (iv.toNat*sz)).add j)=some u:=by
     intro j u hu;have:=hcell j u hu;rw[add_add,add_lit];rw[List.getElem?_take]at this;split at this
     .have hj:=(List.getElem?_eq_some_iff.1 this).1;simp only[World.cell?,hg];rw[<-this,<-uq (pre:=pre) (post:=post) hj];simp
     .cases this
    have hat:At (fun b=>true=false/\Mu fx.U0 (dL its κ) b) w ((⟨b,pre.length,none⟩:Addr).add (iv.toNat*sz)) e1:=⟨fun h=>(by cases h.1),hcl⟩;obtain⟨κx,S'⟩:=AA (ow:=true) S hat hne hr (List.getElem?_eq_some_iff.1 hi).1 ⟨_,n,c,hc,by rw[hl1],h0,by omega⟩;have hx':=eD (κ:=κ) hx;simp only[SV.den,Cell.den,hc]at hx';have hrun:=Fh (P:=P) (N:=N) (d:=d) (t:=t) (ps:=ps) (af:=af) (g:=g) (o:=0) (n:=sz) (vs:=e1) (ty:=ty) (l:=fD κ env) (x:=x) (w:=w) (ad:=(⟨b,pre.length,none⟩:Addr).add (iv.toNat*sz)) (es:=e1) (U:=fun b=>true=false/\Mu fx.U0 (dL its κ) b) (fun w=>by have:=(bZ.get ht).agg w;rw[hag]at this;exact this) (fun w=>by have:=(bZ.get ht).size w;rw[hsz]at this;exact this) (by rw[hx',add_add];rfl) hat (by rw[List.drop_zero,List.take_of_length_le (by omega)]) hl1;refine .inl ⟨_,w,hrun a zw,κx,fun z hz=>?_,S'.kill⟩;injection hz with hz;subst hz;obtain⟨c',hc',hok'⟩:=S'.iy (i:=its.length) (by rw[List.getElem?_append_right (Nat.le_refl _),Nat.sub_self];rfl);cases c' with
    | a ad=>
      obtain⟨hat',_,A',n',c2,hA',had,_,_⟩:=hok';have hil:=(List.getElem?_eq_some_iff.1 hc).1;rw[List.getElem?_append_left hil,hc]at hA';injection hA' with hA';injection hA' with hA' _ _;injection hA' with hA';subst hA';have hlen:(dw.cells R e (its.length+1)).length=e1.length:=by
       obtain⟨κs,k1,k2,_⟩:=dw.op hr;have q1:=congrArg List.length (k2 (κ++[.a ad]));rw[List.length_append,List.length_singleton,S.len,List.length_map]at q1;exact q1.symm
      have hcs:e1=(dw.cells R e (its.length+1)).map (Cell.den (κ++κx)):=by
       refine List.ext_getElem? fun k=>?_;by_cases hk:k<e1.length
       .obtain⟨u,hu⟩:∃u,((dw.cells R e (its.length+1)).map (Cell.den (κ++κx)))[k]?=some u:=⟨_,List.getElem?_eq_getElem (by rw[List.length_map,hlen];exact hk)⟩;have q3:=hat'.2 k u hu;have q4:=hcl k _ (List.getElem?_eq_getElem hk);rw[had,hlen,hl1,q4]at q3;rw[hu,List.getElem?_eq_getElem hk];exact q3
       .rw[List.getElem?_eq_none (by omega),List.getElem?_eq_none (by rw[List.length_map,hlen];omega)]
      rw[hcs];rfl
    | _=>exact hok'.elim
  | _=>exact hok.elim
 .cases hT
def DL(P:Program)(N n0:Nat)(fx:Fx)(env:bP)(its:List Item)(o:Oper)(aR:List Item):Prop:=
 ∀κ w,St n0 fx env its κ w->∀a,Holds N (fD κ env) a->∃w',(execOp a.eval o).run P w=.ok .skip w'/\St n0 fx env aR κ w'
theorem SW.nY{ops Kn ks bs bs' bg κ1 fuel i op t ps af}(D:DK ks bg κ1)(hi:ops[i]?=some ⟨none,op,t,ps,af,none⟩)(he:DL P N n0 fx env its ⟨none,op,t,ps,af,none⟩ aR)(hb:bs.set i true=bs')(hK:Mi ks bs' aR=LH ks bg bs')
 (hk:SD P ops Kn ks bg κ1 fuel bs' N n0 fx env aR):SW P ops Kn ks bg κ1 fuel bs N n0 fx env its i:=fun κx w S a ha=>by
 obtain⟨w',h1,S'⟩:=he _ w S a ha;unfold wpOp;simp only[hi,Region.wanted,if_true];refine .inl ?_;unfold Oper.wp;rw[h1];have h4:=hk κx w' S' _ ha;have e:bs.toArray.setIfInBounds i true=bs'.toArray:=by rw[<-hb];simp
 rw[e];exact⟨S'.Mq hK D,h4⟩
theorem FV(bZ:eu P tt){ty:TypeId}{x y i iv v cs l l' e}
 (hx:jN env x=some (vp i (iv.toNat*sz))) (hi:its[i]?=some (.o sz E R l)) (hy:jN env y=some v) (hv:v.cells its=some cs) (hc:dB its R cs e)
 (hl:(Nat.beq cs.length sz && !its.any Item.ow)=true) (hT:(match jU ty tt with
   | some ti=>Nat.beq ti.size sz
   | none=>false)=true) (hu:upd l iv e=some l') :
 DL P N n0 fx env its ⟨none,.store ty x y,t,ps,af,g⟩ (its.set i (.o sz E R l')):=fun κ w S a ha=>by
 simp only[Bool.and_eq_true,Nat.beq_eq,Bool.not_eq_true']at hl;obtain⟨hl2,how⟩:=hl;split at hT
 .rename_i ti ht;simp only[Nat.beq_eq]at hT;obtain⟨c,hci,hoki⟩:=S.iy hi;cases c with
  | r A n c=>
    obtain⟨hn,ho⟩:=hoki;rcases gU ho with⟨rfl,_,rfl⟩|⟨b,pre,cur,post,fz,rfl,_⟩
    .obtain⟨_,h1,_⟩:=sF hu;simp at h1;omega
    .have hx':=eD (κ:=κ) hx;simp only[SV.den,Cell.den,hci]at hx';have hx2:ev (fD κ env) x=some (.pointer (some ⟨b,pre.length+iv.toNat*sz,none⟩)):=by
      rw[hx',add_lit]
     have hL:(dL its κ)[i]?=some (some b):=bU hi hci;have hrun:=LP (P:=P) (N:=N) (t:=t) (ps:=ps) (af:=af) (g:=g) (fun w=>by have:=(bZ.get ht).size w;rw[hT]at this;exact this) hx2 (eD hy) (lK S.NZ hv) (by simpa using hl2) ho (hc S) hu hL S.ctx;obtain⟨w',hr,hst⟩:=hrun a ha;have hlen:l'.length=l.length:=by obtain⟨_,_,rfl⟩:=sF hu;simp
     exact⟨w',hr,qU S how hi hci hn hlen hst⟩
  | _=>exact hoki.elim
 .cases hT
theorem rA(bZ:eu P tt){ty x lo hi' i dF a b l l'}(hx:jN env x=some (vs i))(hi:its[i]?=some (.o sz E R l))(hlo:vD env 0 lo=some a)(hhi:vD env (len l) hi'=some b)
 (hs:sub l a b=some l') (hT:(EL tt ty E sz dF && !its.any Item.ow)=true):Eff P N n0 fx env its ⟨d,.slice ty x lo hi' none,t,ps,af,g⟩ (some (vs its.length)) (its.set i .e++[.o sz E R l']):=fun κ w S ac zw=>by
 simp only[Bool.and_eq_true,Bool.not_eq_true']at hT;obtain⟨hT,how⟩:=hT;obtain⟨hu,_,hpos,hsz⟩:=lX bZ hT;obtain⟨c,hc,hok⟩:=S.iy hi;cases c with
 | r A n c=>
   obtain⟨hn,ho⟩:=hok;subst hn;have hx':=eD (κ:=κ) hx;simp only[SV.den,Cell.den,hc]at hx';have bnd:∀(q:Option Operand) (dflt r:Int),vD env dflt q=some r->∃qv,q.mapM (ev (fD κ env))=some qv/\((qv=none/\r=dflt)\/∃k,qv=some (.int k r)):=by
    intro q dflt r h;cases q with
    | none=>simp only[vD,Option.some.injEq]at h;exact⟨none,rfl,.inl ⟨rfl,h.symm⟩⟩
    | some x=>
      simp only[vD]at h;split at h
      .rename_i k n hx;injection h with h;subst h;exact⟨some (.int k n),by simp[eD hx,SV.den,Cell.den],.inr ⟨k,rfl⟩⟩
      .cases h
   obtain⟨J2,hl1,hl2⟩:=bnd lo 0 a hlo;obtain⟨hiv,hh1,hh2⟩:=bnd hi' (len l) b hhi;exact Does.qV (Xa hu hsz hx' hl1 hh1 hl2 hh2 ho hs (bU hi hc) S.ctx) zw fun u w' h=>zF S how hi hc h
 | _=>exact hok.elim
end
end V
end Go.Proofs.YtbgfhaahhdnogaaGreat
