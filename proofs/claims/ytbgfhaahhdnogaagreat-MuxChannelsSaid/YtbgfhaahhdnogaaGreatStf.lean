/- A field of an element of a row of the call's own is stored a -/
import Derived.Test.YtbgfhaahhdnogaaGreatFld
namespace Go.Proofs.YtbgfhaahhdnogaaGreat
namespace V
section
variable {P:Program} {N n0:Nat} {fx:Fx} {its aR:List Item} {κ:List Conc} {w:World} {tt:TT} {env:bP} {α:Type} {sz:Nat} {E:TypeId} {R:RT α} [dM R] {d:Option Nat} {t:TypeId} {ps:String} {af:Array Edge} {g:Option (Nat×Bool)}
def EffX(P:Program)(N n0:Nat)(fx:Fx)(env:bP)(its:List Item)(o:Oper)(aR:List Item):Prop:=
 ∀κ w,St n0 fx env its κ w->∀a,Holds N (fD κ env) a->∃w' κx,(execOp a.eval o).run P w=.ok .skip w'/\St n0 fx env aR (κ++κx) w'
theorem SW.acY{ops Kn ks bs bs' bg κ1 fuel i op t ps af}(D:DK ks bg κ1)(hi:ops[i]?=some ⟨none,op,t,ps,af,none⟩)(he:EffX P N n0 fx env its ⟨none,op,t,ps,af,none⟩ aR)(hb:bs.set i true=bs')(hK:Mi ks bs' aR=LH ks bg bs')
 (hk:SD P ops Kn ks bg κ1 fuel bs' N n0 fx env aR):SW P ops Kn ks bg κ1 fuel bs N n0 fx env its i:=fun κx w S a ha=>by
 obtain⟨w',κy,h1,S'⟩:=he _ w S a ha;rw[List.append_assoc]at S';unfold wpOp;simp only[hi,Region.wanted,if_true];refine .inl ?_;unfold Oper.wp;rw[h1];have ha2:Holds N (fD (κ1++(κx++κy)) env) a:=by
  rw[<-List.append_assoc,jX (by rw[S.len];exact S.sj)];exact ha
 have h4:=hk (κx++κy) w' S' _ ha2;have e:bs.toArray.setIfInBounds i true=bs'.toArray:=by rw[<-hb];simp
 rw[e];exact⟨S'.Mq hK D,h4⟩
theorem UM[dw R](bZ:eu P tt){ty:TypeId}{x y i o iv v cs cs1 l l' e0 e}(hx:jN env x=some (vp i (iv.toNat*sz+o)))(hi:its[i]?=some (.o sz E R l))(he:idx l iv=some e0)(hy:jN env y=some v)(hv:v.cells (its++(.elt (some (i,iv)) true (dw.cells R e0 (its.length+1))::dw.its R e0))=some cs)
 (hx1:(dw.cells R e0 (its.length+1)).take o++cs++(dw.cells R e0 (its.length+1)).drop (o+cs.length)=cs1) (hki:(kl (its++(.elt (some (i,iv)) true (dw.cells R e0 (its.length+1))::dw.its R e0)))[i]?=some (.o sz E R l)) (hc:dB (its++(.elt (some (i,iv)) true (dw.cells R e0 (its.length+1))::dw.its R e0)) R cs1 e)
 (hl:(Nat.beq (dw.cells R e0 (its.length+1)).length sz&&Nat.ble (o+cs.length) sz&&Nat.blt 0 sz)=true)
 (hT:(match jU ty tt with
   | some ti=>Nat.beq ti.size cs.length
   | none=>false)=true) (hu:upd l iv e=some l') :
 EffX P N n0 fx env its ⟨none,.store ty x y,t,ps,af,g⟩ ((kl (its++(.elt (some (i,iv)) true (dw.cells R e0 (its.length+1))::dw.its R e0))).set i (.o sz E R l')):=fun κ w S a ha=>by
 subst hx1;simp only[Bool.and_eq_true,Nat.beq_eq]at hl;obtain⟨⟨hl1,hl2⟩,hpos⟩:=hl;have hl2:=Nat.le_of_ble_eq_true hl2;have hpos':0<sz:=by simpa [Nat.blt_eq]using hpos
 split at hT
 .rename_i ti ht;simp only[Nat.beq_eq]at hT;obtain⟨c,hci,hok⟩:=S.iy hi;cases c with
  | r A n c=>
    obtain⟨hn,ho⟩:=hok;obtain⟨h0,h1,hxx⟩:=pU he;rcases gU ho with⟨rfl,rfl,rfl⟩|⟨b,pre,cur,post,fz,rfl,_,hg,_,_,hsize,hes⟩
    .simp at hxx
    obtain⟨e1,acH,hr,hcell⟩:=fJ.get l _ iv.toNat e0 hes hxx;have hne:e1≠[]:=fun q=>by rw[q]at acH;simp at acH;omega
    have hcl:∀j u,e1[j]?=some u->w.cell? (((⟨b,pre.length,none⟩:Addr).add (iv.toNat*sz)).add j)=some u:=by
     intro j u hu;have:=hcell j u hu;rw[add_add,add_lit];rw[List.getElem?_take]at this;split at this
     .have hj:=(List.getElem?_eq_some_iff.1 this).1;simp only[World.cell?,hg];rw[<-this,<-uq (pre:=pre) (post:=post) hj];simp
     .cases this
    have hat:At (fun b=>true=false/\Mu fx.U0 (dL its κ) b) w ((⟨b,pre.length,none⟩:Addr).add (iv.toNat*sz)) e1:=⟨fun h=>(by cases h.1),hcl⟩;have hil:=(List.getElem?_eq_some_iff.1 hi).1;obtain⟨κx,S'⟩:=AA (ow:=true) S hat hne hr hil ⟨_,n,c,hci,by rw[acH],h0,by omega⟩;have Yl:(κ++κx)[i]?=some (.r (some ⟨b,pre.length,none⟩) n c):=by rw[List.getElem?_append_left (List.getElem?_eq_some_iff.1 hci).1];exact hci
    have hi2:(its++(.elt (some (i,iv)) true (dw.cells R e0 (its.length+1))::dw.its R e0))[i]?=some (.o sz E R l):=by rw[List.getElem?_append_left hil];exact hi
    have hx':=eD (κ:=κ) hx;simp only[SV.den,Cell.den,hci]at hx';have hx2:ev (fD κ env) x=some (.pointer (some ⟨b,pre.length+(iv.toNat*sz+o),none⟩)):=by
     rw[hx',add_lit]
    obtain⟨c',hc',hok'⟩:=S'.iy (i:=its.length) (by rw[List.getElem?_append_right (Nat.le_refl _),Nat.sub_self];rfl);cases c' with
    | a ad=>
      obtain⟨hat',_,A',n',c2,hA',had,_,_⟩:=hok';rw[Yl]at hA';injection hA' with hA';injection hA' with hA' _ _;injection hA' with hA';subst hA';have had2:ad=⟨b,pre.length+iv.toNat*sz,none⟩:=by rw[had,hl1,add_lit]
      subst had2;have hL:(dL (its++(.elt (some (i,iv)) true (dw.cells R e0 (its.length+1))::dw.its R e0)) (κ++κx))[i]?=some (some b):=bU hi2 Yl;have hcc:=hc S';rw[List.map_append,List.map_append,List.map_take,List.map_drop]at hcc;have hy2:=eD (κ:=κ++κx) hy;rw[jX (by rw[S.len];exact S.sj)]at hy2;obtain⟨c3,hc3,hok3⟩:=S'.iy hi2;rw[Yl]at hc3;injection hc3 with hc3;subst hc3;obtain⟨hn3,ho3⟩:=hok3;have hrun:=Pw (P:=P) (N:=N) (t:=t) (ps:=ps) (af:=af) (g:=g) (o:=o) (n:=cs.length) (es:=(dw.cells R e0 (its.length+1)).map (Cell.den (κ++κx))) (fun w=>by have:=(bZ.get ht).size w;rw[hT]at this;exact this) hx2 hy2 (lK S'.NZ hv) (by simp) (by simpa using hl1) hl2 (fun k u hu=>by
       have:=hat'.2 k u hu;rw[add_lit,Nat.add_assoc]at this;exact this) ho3 hcc hu hL S'.ctx
      obtain⟨w',hr2,hst⟩:=hrun a ha;refine⟨w',κx,hr2,?_⟩;have hlen:l'.length=l.length:=by obtain⟨_,_,rfl⟩:=sF hu;simp
      have hst':qB sz E R fx.U0 fx.X0 fx.w0 (dL (kl (its++(.elt (some (i,iv)) true (dw.cells R e0 (its.length+1))::dw.its R e0))) (κ++κx)) w (some ⟨b,pre.length,none⟩) c l' w':=by rw[M9];exact hst
      exact qU S'.kill ace hki Yl hn hlen hst'
    | _=>exact hok'.elim
  | _=>exact hok.elim
 .cases hT
end
end V
end Go.Proofs.YtbgfhaahhdnogaaGreat
