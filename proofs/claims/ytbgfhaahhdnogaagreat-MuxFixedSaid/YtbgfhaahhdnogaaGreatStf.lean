/- A field of an element of a row of the call's own is stored a -/
import Derived.Test.YtbgfhaahhdnogaaGreatFld
namespace Go.Proofs.YtbgfhaahhdnogaaGreat
namespace V
section
variable {P:Program} {N n0:Nat} {fx:Fx} {its aM:List Item} {κ:List Conc} {w:World} {tt:TT} {env:bK} {α:Type} {sz:Nat} {E:TypeId} {R:RT α} [dD R] {d:Option Nat} {t:TypeId} {ps:String} {af:Array Edge} {g:Option (Nat×Bool)}
def VZ(P:Program)(N n0:Nat)(fx:Fx)(env:bK)(its:List Item)(o:Oper)(aM:List Item):Prop:=
 ∀κ w,St n0 fx env its κ w→∀a,Holds N (eF κ env) a→∃w' κx,(execOp a.eval o).run P w=.ok .skip w'∧St n0 fx env aM (κ++κx) w'
theorem SW.ZU{ops:Array Oper}{Kn:Act→World→Prop}{ks:KB}{bs bs':List Bool}{aZ:KI}{κ1:List Conc}{fuel i:Nat}{op:Op}{t:TypeId}{ps:String}{af:Array Edge}(D:DK ks aZ κ1)(hi:ops[i]? = some ⟨none,op,t,ps,af,none⟩)(he:VZ P N n0 fx env its ⟨none,op,t,ps,af,none⟩ aM)(hb:bs.set i true=bs')(hK:J8 ks bs' aM=JK ks aZ bs')
 (hk:SD P ops Kn ks aZ κ1 fuel bs' N n0 fx env aM):SW P ops Kn ks aZ κ1 fuel bs N n0 fx env its i:=fun κx w S a ha=>by
 obtain⟨w',κy,h1,S'⟩:=he _ w S a ha
 rw[List.append_assoc]at S'
 unfold wpOp
 simp only[hi,Region.wanted,if_true]
 refine .inl ?_
 unfold Oper.wp
 rw[h1]
 have ha2:Holds N (eF (κ1++(κx++κy)) env) a:=by
  rw[← List.append_assoc,iP (by rw[S.len];exact S.oH)]
  exact ha
 have h4:=hk (κx++κy) w' S' _ ha2
 have e:bs.toArray.setIfInBounds i true=bs'.toArray:=by rw[← hb];simp
 rw[e]
 exact⟨S'.Kc hK D,h4⟩
theorem Q7 [cK R](bX:dS P tt){ty:TypeId}{x y:Operand}{i o:Nat}{iv:Int}{v:SV}{cs cs1:List Cell}{l l':List α}{e0 e:α}(hx:jd env x=some (vp i (iv.toNat*sz+o)))(hi:its[i]? = some (.o sz E R l))(he:idx l iv=some e0)(hy:jd env y=some v)(hv:v.cells (its++(.elt (some (i,iv)) true (cK.cells R e0 (its.length+1))::cK.its R e0))=some cs)
 (hx1:(cK.cells R e0 (its.length+1)).take o++cs++(cK.cells R e0 (its.length+1)).drop (o+cs.length)=cs1) (hki:(kl (its++(.elt (some (i,iv)) true (cK.cells R e0 (its.length+1))::cK.its R e0)))[i]? = some (.o sz E R l)) (hc:cZ (its++(.elt (some (i,iv)) true (cK.cells R e0 (its.length+1))::cK.its R e0)) R cs1 e)
 (hl:(Nat.beq (cK.cells R e0 (its.length+1)).length sz&&Nat.ble (o+cs.length) sz&&Nat.blt 0 sz)=true)
 (hT:(match jl ty tt with
   | some ti=>Nat.beq ti.size cs.length
   | none=>false)=true) (hu:upd l iv e=some l') :
 VZ P N n0 fx env its ⟨none,.store ty x y,t,ps,af,g⟩ ((kl (its++(.elt (some (i,iv)) true (cK.cells R e0 (its.length+1))::cK.its R e0))).set i (.o sz E R l')):=fun κ w S a ha=>by
 subst hx1
 simp only[Bool.and_eq_true,Nat.beq_eq]at hl
 obtain⟨⟨hl1,hl2⟩,hpos⟩:=hl
 have hl2:=Nat.le_of_ble_eq_true hl2
 have hpos':0<sz:=by simpa [Nat.blt_eq]using hpos
 split at hT
 ·rename_i ti ht
  simp only[Nat.beq_eq]at hT
  obtain⟨c,hci,hok⟩:=S.gG hi
  cases c with
  | r A n c=>
    obtain⟨hn,ho⟩:=hok
    obtain⟨h0,h1,Zu⟩:=oq he
    rcases fV ho with⟨rfl,rfl,rfl⟩ | ⟨b,pre,cur,post,fz,rfl,_,hg,_,_,hsize,hes⟩
    ·simp at Zu
    obtain⟨e1,ZE,hr,hcell⟩:=fq.get l _ iv.toNat e0 hes Zu
    have hne:e1≠[]:=fun q=>by rw[q]at ZE;simp at ZE;omega
    have hcl:∀j u,e1[j]? = some u→w.cell? (((⟨b,pre.length,none⟩:Addr).add (iv.toNat*sz)).add j)=some u:=by
     intro j u hu
     have:=hcell j u hu
     rw[add_add,add_lit]
     rw[List.getElem?_take]at this
     split at this
     ·have hj:=(List.getElem?_eq_some_iff.1 this).1
      simp only[World.cell?,hg]
      rw[← this,← rT (pre:=pre) (post:=post) hj]
      simp
     ·cases this
    have hat:At (fun b=>true=false∧Mu fx.U0 (dz its κ) b) w ((⟨b,pre.length,none⟩:Addr).add (iv.toNat*sz)) e1:=⟨fun h=>(by cases h.1),hcl⟩
    have hil:=(List.getElem?_eq_some_iff.1 hi).1
    obtain⟨κx,S'⟩:=y9 (ow:=true) S hat hne hr hil ⟨_,n,c,hci,by rw[ZE],h0,by omega⟩
    have U7:(κ++κx)[i]? = some (.r (some ⟨b,pre.length,none⟩) n c):=by rw[List.getElem?_append_left (List.getElem?_eq_some_iff.1 hci).1];exact hci
    have hi2:(its++(.elt (some (i,iv)) true (cK.cells R e0 (its.length+1))::cK.its R e0))[i]? = some (.o sz E R l):=by rw[List.getElem?_append_left hil];exact hi
    have hx':=eD (κ:=κ) hx
    simp only[SV.den,Cell.den,hci]at hx'
    have hx2:ev (eF κ env) x=some (.pointer (some ⟨b,pre.length+(iv.toNat*sz+o),none⟩)):=by
     rw[hx',add_lit]
    obtain⟨c',hc',hok'⟩:=S'.gG (i:=its.length) (by rw[List.getElem?_append_right (Nat.le_refl _),Nat.sub_self];rfl)
    cases c' with
    | a ad=>
      obtain⟨hat',_,A',n',c2,hA',had,_,_⟩:=hok'
      rw[U7]at hA'
      injection hA' with hA'
      injection hA' with hA' _ _
      injection hA' with hA'
      subst hA'
      have had2:ad=⟨b,pre.length+iv.toNat*sz,none⟩:=by rw[had,hl1,add_lit]
      subst had2
      have hL:(dz (its++(.elt (some (i,iv)) true (cK.cells R e0 (its.length+1))::cK.its R e0)) (κ++κx))[i]? = some (some b):=bQ hi2 U7
      have hcc:=hc S'
      rw[List.map_append,List.map_append,List.map_take,List.map_drop]at hcc
      have hy2:=eD (κ:=κ++κx) hy
      rw[iP (by rw[S.len];exact S.oH)]at hy2
      obtain⟨c3,hc3,hok3⟩:=S'.gG hi2
      rw[U7]at hc3
      injection hc3 with hc3
      subst hc3
      obtain⟨hn3,ho3⟩:=hok3
      have hrun:=Nc (P:=P) (N:=N) (t:=t) (ps:=ps) (af:=af) (g:=g) (o:=o) (n:=cs.length) (es:=(cK.cells R e0 (its.length+1)).map (Cell.den (κ++κx))) (fun w=>by have:=(bX.get ht).size w;rw[hT]at this;exact this) hx2 hy2 (kF S'.LC hv) (by simp) (by simpa using hl1) hl2 (fun k u hu=>by
       have:=hat'.2 k u hu
       rw[add_lit,Nat.add_assoc]at this
       exact this) ho3 hcc hu hL S'.ctx
      obtain⟨w',hr2,hst⟩:=hrun a ha
      refine⟨w',κx,hr2,?_⟩
      have hlen:l'.length=l.length:=by obtain⟨_,_,rfl⟩:=qJ hu;simp
      have hst':oG sz E R fx.U0 fx.X0 fx.w0 (dz (kl (its++(.elt (some (i,iv)) true (cK.cells R e0 (its.length+1))::cK.its R e0))) (κ++κx)) w (some ⟨b,pre.length,none⟩) c l' w':=by rw[KP];exact hst
      exact oW S'.kill Zi hki U7 hn hlen hst'
    | _=>exact hok'.elim
  | _=>exact hok.elim
 ·cases hT
end
end V
end Go.Proofs.YtbgfhaahhdnogaaGreat
