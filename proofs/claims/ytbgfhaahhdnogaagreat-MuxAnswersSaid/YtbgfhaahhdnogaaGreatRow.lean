/- Pointers into a row of the call's own that nothing is known -/
import Derived.Test.YtbgfhaahhdnogaaGreatArr
namespace Go.Proofs.YtbgfhaahhdnogaaGreat
namespace V
section
variable {P:Program} {N n0:Nat} {fx:Fx} {its aP:List Item} {κ:List Conc} {w:World} {tt:TT} {env:bN} {α:Type} {sz:Nat} {E:TypeId} {R:RT α} [dH R] {d:Option Nat} {t:TypeId} {ps:String} {af:Array Edge} {g:Option (Nat×Bool)}
theorem mZ(cK:dX P tt){ty:TypeId}{x y:Operand}{i dA:Nat}{k:IntKind}{iv:Int}{l:List α}{e:α}(hx:jD env x=some (vs i))(hi:its[i]? = some (.o sz E R l))(hy:jD env y=some (vi k iv))(he:idx l iv=some e)(hT:Dt tt ty E sz dA=true) :
 Eff P N n0 fx env its ⟨d,.indexAddr ty x y,t,ps,af,g⟩ (some (vp i (iv.toNat*sz))) its:=fun κ w S a yQ=>by
 obtain⟨hu,_,hpos,hs⟩:=lI cK hT;obtain⟨c,hc,hok⟩:=S.gP hi;cases c with
 | r A n c=>
   obtain⟨hn,ho⟩:=hok;subst hn;have hx':=eD (κ:=κ) hx;simp only[SV.den,Cell.den,hc]at hx';obtain⟨b,o,es,rfl,hr,_,_,_⟩:=aaR (P:=P) (N:=N) hu hs hx' (eD hy) ho he;refine .inl ⟨_,w,hr a yQ,[],fun z hz=>?_,by rw[List.append_nil];exact S⟩;injection hz with hz;subst hz;simp only[SV.den,Cell.den,List.append_nil,hc,add_lit]
 | _=>exact hok.elim
theorem ER [dh R](cK:dX P tt){ty:TypeId}{x:Operand}{i:Nat}{iv:Int}{l:List α}{e:α}(hx:jD env x=some (vp i (iv.toNat*sz)))(hi:its[i]? = some (.o sz E R l))(he:idx l iv=some e)(hpos:(Nat.blt 0 sz && !its.any Item.ow)=true)
 (hT:(match jK ty tt with
   | some ti=>ti.agg&&Nat.beq ti.size sz
   | none=>false)=true) (hl:((dh.its R e).any Item.ow)=false) :
 Eff P N n0 fx env its ⟨d,.load ty x,t,ps,af,g⟩ (some (.g (dh.cells R e (its.length+1)))) (kl (its++(.elt (some (i,iv)) true (dh.cells R e (its.length+1))::dh.its R e))):=fun κ w S a yQ=>by
 simp only[Bool.and_eq_true,Bool.not_eq_true']at hpos;obtain⟨hpos,how⟩:=hpos;split at hT
 ·rename_i ti ht;simp only[Bool.and_eq_true,Nat.beq_eq]at hT;obtain⟨hag,hsz⟩:=hT;obtain⟨c,hc,hok⟩:=S.gP hi;cases c with
  | r A n c=>
    obtain⟨hn,ho⟩:=hok;obtain⟨h0,h1,hxx⟩:=oZ he;rcases gF ho with⟨rfl,rfl,rfl⟩ | ⟨b,pre,cur,post,fz,rfl,_,hg,_,_,hsize,hes⟩
    ·simp at hxx
    obtain⟨e1,hl1,hr,hcell⟩:=fC.get l _ iv.toNat e hes hxx;have hpos':0<sz:=by simpa [Nat.blt_eq]using hpos
    have hne:e1≠[]:=fun q=>by rw[q]at hl1;simp at hl1;omega
    have hcl:∀j u,e1[j]? = some u->w.cell? (((⟨b,pre.length,none⟩:Addr).add (iv.toNat*sz)).add j)=some u:=by
     intro j u hu;have:=hcell j u hu;rw[add_add,add_lit];rw[List.getElem?_take]at this;split at this
     ·have hj:=(List.getElem?_eq_some_iff.1 this).1;simp only[World.cell?,hg];rw[← this,← sQ (pre:=pre) (post:=post) hj];simp
     ·cases this
    have hat:At (fun b=>true=false/\Mu fx.U0 (dG its κ) b) w ((⟨b,pre.length,none⟩:Addr).add (iv.toNat*sz)) e1:=⟨fun h=>(by cases h.1),hcl⟩;obtain⟨κx,S'⟩:=zT (ow:=true) S hat hne hr (List.getElem?_eq_some_iff.1 hi).1 ⟨_,n,c,hc,by rw[hl1],h0,by omega⟩;have hx':=eD (κ:=κ) hx;simp only[SV.den,Cell.den,hc]at hx';have hrun:=DY (P:=P) (N:=N) (d:=d) (t:=t) (ps:=ps) (af:=af) (g:=g) (o:=0) (n:=sz) (vs:=e1) (ty:=ty) (l:=eX κ env) (x:=x) (w:=w) (ad:=(⟨b,pre.length,none⟩:Addr).add (iv.toNat*sz)) (es:=e1) (U:=fun b=>true=false/\Mu fx.U0 (dG its κ) b) (fun w=>by have:=(cK.get ht).agg w;rw[hag]at this;exact this) (fun w=>by have:=(cK.get ht).size w;rw[hsz]at this;exact this) (by rw[hx',add_add];rfl) hat (by rw[List.drop_zero,List.take_of_length_le (by omega)]) hl1;refine .inl ⟨_,w,hrun a yQ,κx,fun z hz=>?_,S'.kill⟩;injection hz with hz;subst hz;obtain⟨c',hc',hok'⟩:=S'.gP (i:=its.length) (by rw[List.getElem?_append_right (Nat.le_refl _),Nat.sub_self];rfl);cases c' with
    | a ad=>
      obtain⟨hat',_,A',n',c2,hA',had,_,_⟩:=hok';have hil:=(List.getElem?_eq_some_iff.1 hc).1;rw[List.getElem?_append_left hil,hc]at hA';injection hA' with hA';injection hA' with hA' _ _;injection hA' with hA';subst hA';have hlen:(dh.cells R e (its.length+1)).length=e1.length:=by
       obtain⟨κs,k1,k2,_⟩:=dh.op hr;have q1:=congrArg List.length (k2 (κ++[.a ad]));rw[List.length_append,List.length_singleton,S.len,List.length_map]at q1;exact q1.symm
      have hcs:e1=(dh.cells R e (its.length+1)).map (Cell.den (κ++κx)):=by
       refine List.ext_getElem? fun k=>?_;by_cases hk:k<e1.length
       ·obtain⟨u,hu⟩:∃u,((dh.cells R e (its.length+1)).map (Cell.den (κ++κx)))[k]? = some u:=⟨_,List.getElem?_eq_getElem (by rw[List.length_map,hlen];exact hk)⟩;have q3:=hat'.2 k u hu;have q4:=hcl k _ (List.getElem?_eq_getElem hk);rw[had,hlen,hl1,q4]at q3;rw[hu,List.getElem?_eq_getElem hk];exact q3
       ·rw[List.getElem?_eq_none (by omega),List.getElem?_eq_none (by rw[List.length_map,hlen];omega)]
      rw[hcs];rfl
    | _=>exact hok'.elim
  | _=>exact hok.elim
 ·cases hT
def CS(P:Program)(N n0:Nat)(fx:Fx)(env:bN)(its:List Item)(o:Oper)(aP:List Item):Prop:=
 ∀κ w,St n0 fx env its κ w->∀a,Holds N (eX κ env) a->∃w',(execOp a.eval o).run P w=.ok .skip w'/\St n0 fx env aP κ w'
theorem SW.nK{ops:Array Oper}{Kn:Act->World->Prop}{ks:KB}{bs bs':List Bool}{bf:KI}{κ1:List Conc}{fuel i:Nat}{op:Op}{t:TypeId}{ps:String}{af:Array Edge}(D:DK ks bf κ1)(hi:ops[i]? = some ⟨none,op,t,ps,af,none⟩)(he:CS P N n0 fx env its ⟨none,op,t,ps,af,none⟩ aP)(hb:bs.set i true=bs')(hK:K3 ks bs' aP=KH ks bf bs')
 (hk:SD P ops Kn ks bf κ1 fuel bs' N n0 fx env aP):SW P ops Kn ks bf κ1 fuel bs N n0 fx env its i:=fun κx w S a ha=>by
 obtain⟨w',h1,S'⟩:=he _ w S a ha;unfold wpOp;simp only[hi,Region.wanted,if_true];refine .inl ?_;unfold Oper.wp;rw[h1];have h4:=hk κx w' S' _ ha;have e:bs.toArray.setIfInBounds i true=bs'.toArray:=by rw[← hb];simp
 rw[e];exact⟨S'.K6 hK D,h4⟩
theorem EP(cK:dX P tt){ty:TypeId}{x y:Operand}{i:Nat}{iv:Int}{v:SV}{cs:List Cell}{l l':List α}{e:α}
 (hx:jD env x=some (vp i (iv.toNat*sz))) (hi:its[i]? = some (.o sz E R l)) (hy:jD env y=some v) (hv:v.cells its=some cs) (hc:dz its R cs e)
 (hl:(Nat.beq cs.length sz && !its.any Item.ow)=true) (hT:(match jK ty tt with
   | some ti=>Nat.beq ti.size sz
   | none=>false)=true) (hu:upd l iv e=some l') :
 CS P N n0 fx env its ⟨none,.store ty x y,t,ps,af,g⟩ (its.set i (.o sz E R l')):=fun κ w S a ha=>by
 simp only[Bool.and_eq_true,Nat.beq_eq,Bool.not_eq_true']at hl;obtain⟨hl2,how⟩:=hl;split at hT
 ·rename_i ti ht;simp only[Nat.beq_eq]at hT;obtain⟨c,hci,hoki⟩:=S.gP hi;cases c with
  | r A n c=>
    obtain⟨hn,ho⟩:=hoki;rcases gF ho with⟨rfl,_,rfl⟩ | ⟨b,pre,cur,post,fz,rfl,_⟩
    ·obtain⟨_,h1,_⟩:=rD hu;simp at h1;omega
    ·have hx':=eD (κ:=κ) hx;simp only[SV.den,Cell.den,hci]at hx';have hx2:ev (eX κ env) x=some (.pointer (some ⟨b,pre.length+iv.toNat*sz,none⟩)):=by
      rw[hx',add_lit]
     have hL:(dG its κ)[i]? = some (some b):=bV hi hci;have hrun:=KN (P:=P) (N:=N) (t:=t) (ps:=ps) (af:=af) (g:=g) (fun w=>by have:=(cK.get ht).size w;rw[hT]at this;exact this) hx2 (eD hy) (lq S.MQ hv) (by simpa using hl2) ho (hc S) hu hL S.ctx;obtain⟨w',hr,hst⟩:=hrun a ha;have hlen:l'.length=l.length:=by obtain⟨_,_,rfl⟩:=rD hu;simp
     exact⟨w',hr,pY S how hi hci hn hlen hst⟩
  | _=>exact hoki.elim
 ·cases hT
theorem qF(cK:dX P tt){ty:TypeId}{x:Operand}{lo hi':Option Operand}{i dA:Nat}{a b:Int}{l l':List α}(hx:jD env x=some (vs i))(hi:its[i]? = some (.o sz E R l))(hlo:uL env 0 lo=some a)(hhi:uL env (len l) hi'=some b)
 (hs:sub l a b=some l') (hT:(Dt tt ty E sz dA && !its.any Item.ow)=true):Eff P N n0 fx env its ⟨d,.slice ty x lo hi' none,t,ps,af,g⟩ (some (vs its.length)) (its.set i .e++[.o sz E R l']):=fun κ w S ac yQ=>by
 simp only[Bool.and_eq_true,Bool.not_eq_true']at hT;obtain⟨hT,how⟩:=hT;obtain⟨hu,_,hpos,hsz⟩:=lI cK hT;obtain⟨c,hc,hok⟩:=S.gP hi;cases c with
 | r A n c=>
   obtain⟨hn,ho⟩:=hok;subst hn;have hx':=eD (κ:=κ) hx;simp only[SV.den,Cell.den,hc]at hx';have bnd:∀(q:Option Operand) (dflt r:Int),uL env dflt q=some r->∃qv,q.mapM (ev (eX κ env))=some qv/\((qv=none/\r=dflt)∨∃k,qv=some (.int k r)):=by
    intro q dflt r h;cases q with
    | none=>simp only[uL,Option.some.injEq]at h;exact⟨none,rfl,.inl ⟨rfl,h.symm⟩⟩
    | some x=>
      simp only[uL]at h;split at h
      ·rename_i k n hx;injection h with h;subst h;exact⟨some (.int k n),by simp[eD hx,SV.den,Cell.den],.inr ⟨k,rfl⟩⟩
      ·cases h
   obtain⟨Jc,hl1,hl2⟩:=bnd lo 0 a hlo;obtain⟨hiv,hh1,hh2⟩:=bnd hi' (len l) b hhi;exact Does.p8 (Vf hu hsz hx' hl1 hh1 hl2 hh2 ho hs (bV hi hc) S.ctx) yQ fun u w' h=>yV S how hi hc h
 | _=>exact hok.elim
end
end V
end Go.Proofs.YtbgfhaahhdnogaaGreat
