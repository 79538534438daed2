/- An element of a row of the call's own is wn. -/
import Derived.Test.YtbgfhaahhdnogaaGreatNil
import Derived.Lib.ConvBytes
import Derived.KernelRfl
namespace Go.Proofs.YtbgfhaahhdnogaaGreat
namespace V
def bm:Nat->Nat->List Bool
 | 0,_=>[]
 | k+1,n=>(n%2==1)::bm k (n/2)
theorem K{p:Prop}(h:p:=by as_aux_lemma=>kernel_rfl):p:=h
abbrev J(x:Int):SV:=vi .i64 x
def gsF:Nat->Nat->List Jx
 | 0,_=>[]
 | n+1,i=>.g i::gsF n (i+1)
abbrev gs(n:Nat):List Jx:=gsF n 0
abbrev I:Bool:=true
abbrev O:Bool:=false
section
variable {P:Program} {N n0:Nat} {fx:Fx} {its aR:List Item} {κ:List Conc} {w:World} {tt:TT} {env:bP}
theorem ace:(kl its).any Item.ow=false:=by
 rw[List.any_eq_false];intro it hit;rw[Z0 it hit];exact Bool.false_ne_true
end
section
variable {P:Program} {N n0:Nat} {fx:Fx} {its aR:List Item} {κ:List Conc} {w w0:World} {tt:TT} {env:bP} {l:Env} {t:TypeId} {ps:String} {af:Array Edge} {g:Option (Nat×Bool)} {U0:Nat->Prop} {X0:List (Option Nat)} {L:List (Option Nat)}
theorem Pw{q0 α ty E sz n x y iv}{b i c o:Nat}{v}{vs es:List Value}{R}[dM R]{dt EG}{e:α}(h2:∀w,(sizeOf ty).run P w=.ok n w)(hx:ev l x=some (.pointer (some ⟨b,q0+(iv.toNat*sz+o),none⟩)))(hy:ev l y=some v)(hvs:v.cells=vs.toArray)(hn:vs.length=n)(hes:es.length=sz)(ho:o+n<=sz)
 (hcur:∀k u,es[k]?=some u->w.cell? ⟨b,q0+(iv.toNat*sz+k),none⟩=some u)
 (h:Own sz E R (Mu U0 L) w (some ⟨b,q0,none⟩) c dt) (hr:R (Mu U0 L) w (es.take o++vs++es.drop (o+n)) e) (hi:upd dt iv e=some EG) (hL:L[i]?=some (some b)) (C:Ctx U0 X0 w0 L w) :
 F9 P N l ⟨none,.store ty x y,t,ps,af,g⟩ w (qB sz E R U0 X0 w0 L w (some ⟨b,q0,none⟩) c EG):=fun a ha=>by
 obtain⟨h0,h1,rfl⟩:=sF hi;rcases gU h with⟨hA,_⟩|⟨b',pre,cur,post,fz,hA,hfz,hg,hle,hm,hsz,he⟩
 .cases hA
 .injection hA with hA;injection hA with hA hA2;subst hA;subst hA2;have hk:iv.toNat<dt.length:=by omega
  have hfit0:iv.toNat*sz+sz<=cur.length:=by
   rw[hsz,<-Nat.succ_mul];exact Nat.mul_le_mul_right _ (by omega)
  have h1c:=dM.one hr;have hst:=fq P b (pre.length+(iv.toNat*sz+o)) E fz vs 0 _ w hg (by simpa using hfz) (by simp only[List.size_toArray,List.length_append];omega) (fun u hu=>h1c u (by simp[hu]));simp only[Nat.add_zero]at hst;rw[Ag (by omega)]at hst;have hseg:cur=cur.take (iv.toNat*sz)++es++cur.drop (iv.toNat*sz+sz):=by
   have he2:(cur.drop (iv.toNat*sz)).take sz=es:=by
    refine List.ext_getElem? fun k=>?_;by_cases hk2:k<sz
    .have hke:es[k]?=some (es[k]'(by omega)):=List.getElem?_eq_getElem (by omega);have:=hcur k _ hke;simp only[World.cell?,hg]at this;rw[List.getElem?_take,if_pos hk2,List.getElem?_drop,hke,<-this,<-uq (pre:=pre) (post:=post) (by omega)];simp
    .rw[List.getElem?_eq_none (by rw[List.length_take];omega),List.getElem?_eq_none (by omega)]
   rw[<-he2,List.append_assoc,<-List.drop_drop,List.take_append_drop,List.take_append_drop]
  have hA:(cur.take (iv.toNat*sz)).length=iv.toNat*sz:=by
   rw[List.length_take];omega
  generalize hAA:cur.take (iv.toNat*sz)=A0 at hseg hA;generalize hDD:cur.drop (iv.toNat*sz+sz)=D0 at hseg;have hrow:cur.take (iv.toNat*sz+o)++vs++cur.drop (iv.toNat*sz+o+vs.length)=A0++(es.take o++vs++es.drop (o+n))++D0:=by
   have q1:cur.take (iv.toNat*sz+o)=A0++es.take o:=by
    rw[hseg,<-hA,List.append_assoc,List.take_append,Nat.add_sub_cancel_left,List.take_of_length_le (by omega),List.take_append,show o-es.length=0 from by omega,List.take_zero,List.append_nil]
   have q2:cur.drop (iv.toNat*sz+o+vs.length)=es.drop (o+n)++D0:=by
    rw[hseg,<-hA,List.append_assoc,Nat.add_assoc,List.drop_append,List.drop_of_length_le (by omega),List.nil_append,Nat.add_sub_cancel_left,hn,List.drop_append,show o+n-es.length=0 from by omega,List.drop_zero]
   rw[q1,q2];simp only[List.append_assoc]
  have hvl:(es.take o++vs++es.drop (o+n)).length=sz:=by
   rw[List.length_append,List.length_append,List.length_take,List.length_drop];omega
  generalize es.take o++vs++es.drop (o+n)=vs1 at hr hrow hvl;obtain⟨k1,k2,k3⟩:=qP C hL hg (cs':=pre++(A0++vs1++D0)++post);have N8:(A0++vs1++D0).length=cur.length:=by
   have:=congrArg List.length hseg;rw[List.length_append,List.length_append]at this;rw[List.length_append,List.length_append];omega
  refine⟨_,?_,?_,k2,k3⟩
  .simp only[execOp,ha.ev hx,ha.ev hy,Instr.storeAt,Instr.sureAddr,storeVar,Sem.run_bind,Sem.run_pure,Result.andThen_ok,h2,hvs,List.size_toArray,hn];rw[hn]at hrow;simp[hst,hn,hrow]
  .refine oq (by rw[Ah N8];exact hfz) k1 (by simpa using hle) hm (by rw[N8];exact hsz) ?_;have hset:=fJ.set dt _ iv.toNat e vs1 he hk hvl hr;have e1:(A0++vs1++D0).take ((dt.set iv.toNat e).length*sz) =
    (cur.take (dt.length*sz)).take (iv.toNat*sz)++vs1++(cur.take (dt.length*sz)).drop (iv.toNat*sz+sz):=by
    have hk2:iv.toNat*sz+sz<=dt.length*sz:=by rw[<-Nat.succ_mul];exact Nat.mul_le_mul_right _ (by omega)
    rw[List.length_set,List.take_take,List.drop_take,Nat.min_eq_left (by omega:iv.toNat*sz<=dt.length*sz),hAA,hDD];rw[List.append_assoc,List.take_append,List.take_of_length_le (by omega),List.take_append,List.take_of_length_le (by omega),<-List.append_assoc];congr 2;omega
   rw[e1];exact fJ.step k3.h1 k3.mono _ _ hset
end
section
variable {P:Program} {N n0:Nat} {fx:Fx} {its aR:List Item} {κ:List Conc} {w w0:World} {tt:TT} {env:bP} {l:Env} {d:Option Nat} {t:TypeId} {ps:String} {af:Array Edge} {g:Option (Nat×Bool)} {U0:Nat->Prop} {X0:List (Option Nat)} {L:List (Option Nat)}
inductive StrV(its:List Item)(s:List Int):SV->Prop
 | t {j:Nat} (h:its[j]?=some (.str s)):StrV its s (vt j)
 | c {b:ByteArray} (h:strOf b=s):StrV its s (.c (.v (.string b)))
end
section
variable {P:Program} {N n0:Nat} {fx:Fx} {its aR:List Item} {bg:KI} {κ1:List Conc} {env:bP} {tt:TT} {ops:Array Oper} {Kn:Act->World->Prop} {Ke:Nat->Act->World->Prop} {Kr:Act->World->Prop} {bs:List Bool} {fuel:Nat} {rest:List Oper}
theorem SW.f{ks:KB}{d:Nat}{oi:Oper}{v:SV}(D:DK ks bg κ1)(i:Nat)(bs':List Bool)(hi:ops[i]?=some oi)(hg:oi.guard=none)(hd:oi.dst=some d)(he:Eff P N n0 fx env its oi (some v) aR)
 (hk:SD P ops Kn ks bg κ1 fuel bs' N n0 fx ((d,v)::env) aR) (hN:(Nat.blt d N&&v.lt aR.length)=true:=by as_aux_lemma=>kernel_rfl) (hb:bs.set i true=bs':=by rfl) (hK:Mi ks bs' aR=LH ks bg bs':=by as_aux_lemma=>kernel_rfl):SW P ops Kn ks bg κ1 fuel bs N n0 fx env its i:=SW.p8 D hi (.inl hg) hd he hN hb hK hk
theorem SW.v{ks:KB}{d:Nat}{oi:Oper}(D:DK ks bg κ1)(i:Nat)(v:SV)(bs':List Bool)(hi:ops[i]?=some oi)(hg:oi.guard=none)(hd:oi.dst=some d)(he:Eff P N n0 fx env its oi (some v) aR)
 (hk:SD P ops Kn ks bg κ1 fuel bs' N n0 fx ((d,v)::env) aR) (hN:(Nat.blt d N&&v.lt aR.length)=true:=by as_aux_lemma=>kernel_rfl) (hb:bs.set i true=bs':=by rfl) (hK:Mi ks bs' aR=LH ks bg bs':=by as_aux_lemma=>kernel_rfl):SW P ops Kn ks bg κ1 fuel bs N n0 fx env its i:=SW.p8 D hi (.inl hg) hd he hN hb hK hk
theorem SW.w(bZ:eu P tt){ks:KB}{d:Nat}{op:Op}{t:TypeId}{ps:String}{af:Array Edge}(D:DK ks bg κ1)(i:Nat)(v:SV)(bs':List Bool)(hi:ops[i]?=some ⟨some d,op,t,ps,af,none⟩)(hk:SD P ops Kn ks bg κ1 fuel bs' N n0 fx ((d,v)::env) its)(hv:uR tt (fun _=>true) its (jN env) op=some v:=by as_aux_lemma=>kernel_rfl)
 (hN:(Nat.blt d N&&v.lt its.length)=true:=by as_aux_lemma=>kernel_rfl) (hb:bs.set i true=bs':=by rfl) (hK:Mi ks bs' its=LH ks bg bs':=by as_aux_lemma=>kernel_rfl):SW P ops Kn ks bg κ1 fuel bs N n0 fx env its i:=SW.p8 D hi (.inl rfl) rfl (nE bZ hv) hN hb hK hk
theorem SD.t{ks:KB}(bZ:eu P tt)(D:DK ks bg κ1)(is:List Nat)(bs':List Bool)(env':bP){fuel':Nat}(hk:SD P ops Kn ks bg κ1 fuel' bs' N n0 fx env' its)(hf:fuel=fuel'+is.length:=by rfl)(hsel:Region.noSelect ops=true:=by as_aux_lemma=>kernel_rfl)(hK:Mi ks bs its=LH ks bg bs:=by as_aux_lemma=>kernel_rfl)
 (h:Jg N tt [] ks.2.2 bg its.length ops is [] bs env (env'.map (·.1))=some (bs',env',[],[]):=by as_aux_lemma=>kernel_rfl):SD P ops Kn ks bg κ1 fuel bs N n0 fx env its:=SD.tk5 bZ D [] mD is [] [] bs' env' hf hsel hK h hk
def kv(t:Nat)(env:bP):SV:=match EA t env with
 | some v=>v
 | none=>.u []
def kp:List Nat->bP->bP->bP
 | [],_,new=>new
 | t::ts,env,new=>(t,kv t env)::kp ts env new
theorem M.d(bZ:eu P tt)(k:Nat)(ts:List Nat)(new:bP)(ch:List (Nat×TypeId×List Cell))(evs:List Le)(q:List Int)(hk:M P ops (rest.drop k) Kn N n0 fx (kp ts env new) (ch.foldl (fun i c=>lF i c.1 c.2.1 c.2.2) its))
 (h:DY N tt (fun _=>true) ops (rest.take k) evs env its ((kp ts env new).map (·.1))=some (kp ts env new,ch.foldl (fun i c=>lF i c.1 c.2.1 c.2.2) its,q,q):=by as_aux_lemma=>kernel_rfl):M P ops rest Kn N n0 fx env its:=M.sim bZ k _ ch evs q h hk
theorem Z.d(bZ:eu P tt){id:Nat}{os:List Oper}{y:Code}(ts:List Nat)(new:bP)(ch:List (Nat×TypeId×List Cell))(evs:List Le)(q:List Int)(hk:Z P y Kn Ke Kr N n0 fx (kp ts env new) (ch.foldl (fun i c=>lF i c.1 c.2.1 c.2.2) its))
 (h:DY N tt (fun _=>true) os.toArray os evs env its ((kp ts env new).map (·.1))=some (kp ts env new,ch.foldl (fun i c=>lF i c.1 c.2.1 c.2.2) its,q,q):=by as_aux_lemma=>kernel_rfl):Z P (.seq (.region id os.toArray false) y) Kn Ke Kr N n0 fx env its:=Z.r bZ _ ch evs q h hk
theorem M.n(bZ:eu P tt)(k:Nat)(ts:List Nat)(new:bP)(hk:M P ops (rest.drop k) Kn N n0 fx (kp ts env new) its)(h:DY N tt (fun _=>true) ops (rest.take k) [] env its ((kp ts env new).map (·.1))=some (kp ts env new,its,[],[]):=by as_aux_lemma=>kernel_rfl):M P ops rest Kn N n0 fx env its:=M.sim bZ k _ [] [] [] h hk
theorem Z.n(bZ:eu P tt){id:Nat}{os:List Oper}{y:Code}(ts:List Nat)(new:bP)(hk:Z P y Kn Ke Kr N n0 fx (kp ts env new) its)(h:DY N tt (fun _=>true) os.toArray os [] env its ((kp ts env new).map (·.1))=some (kp ts env new,its,[],[]):=by as_aux_lemma=>kernel_rfl):Z P (.seq (.region id os.toArray false) y) Kn Ke Kr N n0 fx env its:=Z.r bZ _ [] [] [] h hk
theorem SD.d{ks:KB}(bZ:eu P tt)(D:DK ks bg κ1)(kn:List (Nat×Bool))(hkn:V9 kn env)(is:List Nat)(evs:List Le)(q:List Int)(bs':List Bool)(ts:List Nat)(new:bP){fuel':Nat}(hk:SD P ops Kn ks bg κ1 fuel' bs' N n0 fx (kp ts env new) its)(hf:fuel=fuel'+is.length:=by rfl)(hsel:Region.noSelect ops=true:=by as_aux_lemma=>kernel_rfl)(hK:Mi ks bs its=LH ks bg bs:=by as_aux_lemma=>kernel_rfl)
 (h:Jg N tt kn ks.2.2 bg its.length ops is evs bs env ((kp ts env new).map (·.1))=some (bs',kp ts env new,q,q):=by as_aux_lemma=>kernel_rfl):SD P ops Kn ks bg κ1 fuel bs N n0 fx env its:=SD.tk5 bZ D kn hkn is evs q bs' _ hf hsel hK h hk
theorem SD.n{ks:KB}(bZ:eu P tt)(D:DK ks bg κ1)(is:List Nat)(bs':List Bool)(ts:List Nat)(new:bP){fuel':Nat}(hk:SD P ops Kn ks bg κ1 fuel' bs' N n0 fx (kp ts env new) its)(hf:fuel=fuel'+is.length:=by rfl)(hsel:Region.noSelect ops=true:=by as_aux_lemma=>kernel_rfl)(hK:Mi ks bs its=LH ks bg bs:=by as_aux_lemma=>kernel_rfl)
 (h:Jg N tt [] ks.2.2 bg its.length ops is [] bs env ((kp ts env new).map (·.1))=some (bs',kp ts env new,[],[]):=by as_aux_lemma=>kernel_rfl):SD P ops Kn ks bg κ1 fuel bs N n0 fx env its:=SD.tk5 bZ D [] mD is [] [] bs' _ hf hsel hK h hk
def gr:List (Nat×Nat)->List Jx
 | []=>[]
 | (a,n)::r=>(List.range n).map (fun i=>Jx.g (a+i))++gr r
theorem M.f{d:Nat}{op:Op}{t:TypeId}{ps:String}{af:Array Edge}{v:SV}(h:Eff P N n0 fx env its ⟨some d,op,t,ps,af,none⟩ (some v) aR)(hk:M P ops rest Kn N n0 fx ((d,v)::env) aR)(hd:Nat.blt d N=true:=by rfl)(hv:v.lt aR.length=true:=by as_aux_lemma=>kernel_rfl):M P ops (⟨some d,op,t,ps,af,none⟩::rest) Kn N n0 fx env its:=M.p8 h hd hv hk
theorem A.t{a:Act}{w:World}{env':bP}(h:A N n0 fx env its a w)(js:List Jx)(e:(Hf js env',j5 js aR,DW n0 its.length js env' aR (qY env env') (srcs its js aR))=(qY env env',srcs its js aR,true):=by as_aux_lemma=>kernel_rfl):A N n0 fx env' aR a w:=h.at e
theorem Z.q{fn:Func}{rs:SV}(bZ:eu P tt)(js:List Jx)(e:((sN js rs,(sN js rs).isSome),j5 js aR,DW n0 its.length js [(0,rs)] aR (some []) (srcs its js aR))=(((zQ tt env its fn.results.toList).bind LU,true),srcs its js aR,true):=by as_aux_lemma=>kernel_rfl):Z P .ret Kn Ke (M7 P fn n0 fx rs aR) N n0 fx env its:=Z.re bZ e
theorem Z.j{c:Operand}{x y:Code}{α:Type}{e:Bool}{X Y:Option α}{r:α}(hp:(if e=true then X else Y)=some r)(ht:X=some r->Z P x Kn Ke Kr N n0 fx env its)(hf:Y=some r->Z P y Kn Ke Kr N n0 fx env its)(hc:jN env c=some (vb e):=by as_aux_lemma=>kernel_rfl):Z P (.cond c x y) Kn Ke Kr N n0 fx env its:=Z.if' hc hp ht hf
theorem SD.w{ks:KB}{env':bP}(D:DK ks bg κ1)(js:List Jx)(hk:SD P ops Kn ks bg κ1 fuel bs N n0 fx env' aR)(e:(preB bg.1.length js,Hf js env',j5 js aR,DW n0 its.length js env' aR (qY env env') (srcs its js aR))=(true,qY env env',srcs its js aR,true):=by as_aux_lemma=>kernel_rfl):SD P ops Kn ks bg κ1 fuel bs N n0 fx env its:=SD.view D js hk e
theorem bB b:b=true\/b=false:=Bool.eq_false_or_eq_true b
theorem M.m(bZ:eu P tt)(k:Nat)(env':bP)(hk:M P ops (rest.drop k) Kn N n0 fx env' its)(h:DY N tt (fun _=>true) ops (rest.take k) [] env its (env'.map (·.1))=some (env',its,[],[]):=by as_aux_lemma=>kernel_rfl):M P ops rest Kn N n0 fx env its:=M.sim bZ k env' [] [] [] h hk
theorem Z.m(bZ:eu P tt){id:Nat}{os:List Oper}{y:Code}(env':bP)(hk:Z P y Kn Ke Kr N n0 fx env' its)(h:DY N tt (fun _=>true) os.toArray os [] env its (env'.map (·.1))=some (env',its,[],[]):=by as_aux_lemma=>kernel_rfl):Z P (.seq (.region id os.toArray false) y) Kn Ke Kr N n0 fx env its:=Z.r bZ env' [] [] [] h hk
theorem Z.s{id os y}(h:M P os.toArray os (fun a w=>IL P fx.px y Kn Ke Kr a w) N n0 fx env its):Z P (.seq (.region id os.toArray false) y) Kn Ke Kr N n0 fx env its:=Z.seq (Z.reg h)
end
end V
end Go.Proofs.YtbgfhaahhdnogaaGreat
