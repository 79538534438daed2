/- A field of an element of a row of the call's own is stored a -/
import Derived.Test.YtbgfhaahhdnogaaGreatFld
namespace Go.Proofs.YtbgfhaahhdnogaaGreat
namespace V
section
variable {P:Program} {N n0:Nat} {fx:Fx} {its aP:List Item} {κ:List Conc} {w:World} {tt:TT} {env:bN} {α:Type} {sz:Nat} {E:TypeId} {R:RT α} [dH R] {d:Option Nat} {t:TypeId} {ps:String} {af:Array Edge} {g:Option (Nat×Bool)}
def EffX(P:Program)(N n0:Nat)(fx:Fx)(env:bN)(its:List Item)(o:Oper)(aP:List Item):Prop:=
 ∀κ w,St n0 fx env its κ w->∀a,Holds N (eX κ env) a->∃w' κx,(execOp a.eval o).run P w=.ok .skip w'/\St n0 fx env aP (κ++κx) w'
theorem SW.abm{ops:Array Oper}{Kn:Act->World->Prop}{ks:KB}{bs bs':List Bool}{bf:KI}{κ1:List Conc}{fuel i:Nat}{op:Op}{t:TypeId}{ps:String}{af:Array Edge}(D:DK ks bf κ1)(hi:ops[i]? = some ⟨none,op,t,ps,af,none⟩)(he:EffX P N n0 fx env its ⟨none,op,t,ps,af,none⟩ aP)(hb:bs.set i true=bs')(hK:K3 ks bs' aP=KH ks bf bs')
 (hk:SD P ops Kn ks bf κ1 fuel bs' N n0 fx env aP):SW P ops Kn ks bf κ1 fuel bs N n0 fx env its i:=fun κx w S a ha=>by
 obtain⟨w',κy,h1,S'⟩:=he _ w S a ha;rw[List.append_assoc]at S';unfold wpOp;simp only[hi,Region.wanted,if_true];refine .inl ?_;unfold Oper.wp;rw[h1];have ha2:Holds N (eX (κ1++(κx++κy)) env) a:=by
  rw[← List.append_assoc,jM (by rw[S.len];exact S.qZ)];exact ha
 have h4:=hk (κx++κy) w' S' _ ha2;have e:bs.toArray.setIfInBounds i true=bs'.toArray:=by rw[← hb];simp
 rw[e];exact⟨S'.K6 hK D,h4⟩
theorem Sw [dh R](cK:dX P tt){ty:TypeId}{x y:Operand}{i o:Nat}{iv:Int}{v:SV}{cs cs1:List Cell}{l l':List α}{e0 e:α}(hx:jD env x=some (vp i (iv.toNat*sz+o)))(hi:its[i]? = some (.o sz E R l))(he:idx l iv=some e0)(hy:jD env y=some v)(hv:v.cells (its++(.elt (some (i,iv)) true (dh.cells R e0 (its.length+1))::dh.its R e0))=some cs)
 (hx1:(dh.cells R e0 (its.length+1)).take o++cs++(dh.cells R e0 (its.length+1)).drop (o+cs.length)=cs1) (hki:(kl (its++(.elt (some (i,iv)) true (dh.cells R e0 (its.length+1))::dh.its R e0)))[i]? = some (.o sz E R l)) (hc:dz (its++(.elt (some (i,iv)) true (dh.cells R e0 (its.length+1))::dh.its R e0)) R cs1 e)
 (hl:(Nat.beq (dh.cells R e0 (its.length+1)).length sz&&Nat.ble (o+cs.length) sz&&Nat.blt 0 sz)=true)
 (hT:(match jK ty tt with
   | some ti=>Nat.beq ti.size cs.length
   | none=>false)=true) (hu:upd l iv e=some l') :
 EffX P N n0 fx env its ⟨none,.store ty x y,t,ps,af,g⟩ ((kl (its++(.elt (some (i,iv)) true (dh.cells R e0 (its.length+1))::dh.its R e0))).set i (.o sz E R l')):=fun κ w S a ha=>by
 subst hx1;simp only[Bool.and_eq_true,Nat.beq_eq]at hl;obtain⟨⟨hl1,hl2⟩,hpos⟩:=hl;have hl2:=Nat.le_of_ble_eq_true hl2;have hpos':0<sz:=by simpa [Nat.blt_eq]using hpos
 split at hT
 ·rename_i ti ht;simp only[Nat.beq_eq]at hT;obtain⟨c,hci,hok⟩:=S.gP hi;cases c with
  | r A n c=>
    obtain⟨hn,ho⟩:=hok;obtain⟨h0,h1,hxx⟩:=oZ he;rcases gF ho with⟨rfl,rfl,rfl⟩ | ⟨b,pre,cur,post,fz,rfl,_,hg,_,_,hsize,hes⟩
    ·simp at hxx
    obtain⟨e1,aa4,hr,hcell⟩:=fC.get l _ iv.toNat e0 hes hxx;have hne:e1≠[]:=fun q=>by rw[q]at aa4;simp at aa4;omega
    have hcl:∀j u,e1[j]? = some u->w.cell? (((⟨b,pre.length,none⟩:Addr).add (iv.toNat*sz)).add j)=some u:=by
     intro j u hu;have:=hcell j u hu;rw[add_add,add_lit];rw[List.getElem?_take]at this;split at this
     ·have hj:=(List.getElem?_eq_some_iff.1 this).1;simp only[World.cell?,hg];rw[← this,← sQ (pre:=pre) (post:=post) hj];simp
     ·cases this
    have hat:At (fun b=>true=false/\Mu fx.U0 (dG its κ) b) w ((⟨b,pre.length,none⟩:Addr).add (iv.toNat*sz)) e1:=⟨fun h=>(by cases h.1),hcl⟩;have hil:=(List.getElem?_eq_some_iff.1 hi).1;obtain⟨κx,S'⟩:=zT (ow:=true) S hat hne hr hil ⟨_,n,c,hci,by rw[aa4],h0,by omega⟩;have Wu:(κ++κx)[i]? = some (.r (some ⟨b,pre.length,none⟩) n c):=by rw[List.getElem?_append_left (List.getElem?_eq_some_iff.1 hci).1];exact hci
    have hi2:(its++(.elt (some (i,iv)) true (dh.cells R e0 (its.length+1))::dh.its R e0))[i]? = some (.o sz E R l):=by rw[List.getElem?_append_left hil];exact hi
    have hx':=eD (κ:=κ) hx;simp only[SV.den,Cell.den,hci]at hx';have hx2:ev (eX κ env) x=some (.pointer (some ⟨b,pre.length+(iv.toNat*sz+o),none⟩)):=by
     rw[hx',add_lit]
    obtain⟨c',hc',hok'⟩:=S'.gP (i:=its.length) (by rw[List.getElem?_append_right (Nat.le_refl _),Nat.sub_self];rfl);cases c' with
    | a ad=>
      obtain⟨hat',_,A',n',c2,hA',had,_,_⟩:=hok';rw[Wu]at hA';injection hA' with hA';injection hA' with hA' _ _;injection hA' with hA';subst hA';have had2:ad=⟨b,pre.length+iv.toNat*sz,none⟩:=by rw[had,hl1,add_lit]
      subst had2;have hL:(dG (its++(.elt (some (i,iv)) true (dh.cells R e0 (its.length+1))::dh.its R e0)) (κ++κx))[i]? = some (some b):=bV hi2 Wu;have hcc:=hc S';rw[List.map_append,List.map_append,List.map_take,List.map_drop]at hcc;have hy2:=eD (κ:=κ++κx) hy;rw[jM (by rw[S.len];exact S.qZ)]at hy2;obtain⟨c3,hc3,hok3⟩:=S'.gP hi2;rw[Wu]at hc3;injection hc3 with hc3;subst hc3;obtain⟨hn3,ho3⟩:=hok3;have hrun:=Oh (P:=P) (N:=N) (t:=t) (ps:=ps) (af:=af) (g:=g) (o:=o) (n:=cs.length) (es:=(dh.cells R e0 (its.length+1)).map (Cell.den (κ++κx))) (fun w=>by have:=(cK.get ht).size w;rw[hT]at this;exact this) hx2 hy2 (lq S'.MQ hv) (by simp) (by simpa using hl1) hl2 (fun k u hu=>by
       have:=hat'.2 k u hu;rw[add_lit,Nat.add_assoc]at this;exact this) ho3 hcc hu hL S'.ctx
      obtain⟨w',hr2,hst⟩:=hrun a ha;refine⟨w',κx,hr2,?_⟩;have hlen:l'.length=l.length:=by obtain⟨_,_,rfl⟩:=rD hu;simp
      have hst':pz sz E R fx.U0 fx.X0 fx.w0 (dG (kl (its++(.elt (some (i,iv)) true (dh.cells R e0 (its.length+1))::dh.its R e0))) (κ++κx)) w (some ⟨b,pre.length,none⟩) c l' w':=by rw[LM];exact hst
      exact pY S'.kill aaJ hki Wu hn hlen hst'
    | _=>exact hok'.elim
  | _=>exact hok.elim
 ·cases hT
end
end V
end Go.Proofs.YtbgfhaahhdnogaaGreat
