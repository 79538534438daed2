/- An element of a row of the call's own is wn. -/
import Derived.Test.YtbgfhaahhdnogaaGreatNil
import Derived.Lib.ConvBytes
import Derived.KernelRfl
namespace Go.Proofs.YtbgfhaahhdnogaaGreat
namespace V
def bm:Nat->Nat->List Bool
 | 0,_=>[]
 | k+1,n=>(n%2==1)::bm k (n/2)
theorem K{p:Prop}(h:p:=by as_aux_lemma=>kernel_rfl):p:=h
abbrev J(x:Int):SV:=vi .i64 x
def gsF:Nat->Nat->List Jx
 | 0,_=>[]
 | n+1,i=>.g i::gsF n (i+1)
abbrev gs(n:Nat):List Jx:=gsF n 0
abbrev I:Bool:=true
abbrev O:Bool:=false
section
variable {P:Program} {N n0:Nat} {fx:Fx} {its aP:List Item} {κ:List Conc} {w:World} {tt:TT} {env:bN}
theorem aaJ:(kl its).any Item.ow=false:=by
 rw[List.any_eq_false];intro it hit;rw[Yy it hit];exact Bool.false_ne_true
end
section
variable {P:Program} {N n0:Nat} {fx:Fx} {its aP:List Item} {κ:List Conc} {w w0:World} {tt:TT} {env:bN} {l:Env} {t:TypeId} {ps:String} {af:Array Edge} {g:Option (Nat×Bool)} {U0:Nat->Prop} {X0:List (Option Nat)} {L:List (Option Nat)}
theorem Oh{q0:Nat}{α:Type}{ty E:TypeId}{sz n:Nat}{x y:Operand}{iv:Int}{b i c o:Nat}{v:Value}{vs es:List Value}{R:RT α} [dH R]{dt Dm:List α}{e:α}(h2:∀w,(sizeOf ty).run P w=.ok n w)(hx:ev l x=some (.pointer (some ⟨b,q0+(iv.toNat*sz+o),none⟩)))(hy:ev l y=some v)(hvs:v.cells=vs.toArray)(hn:vs.length=n)(hes:es.length=sz)(ho:o+n<=sz)
 (hcur:∀k u,es[k]? = some u->w.cell? ⟨b,q0+(iv.toNat*sz+k),none⟩=some u)
 (h:Own sz E R (Mu U0 L) w (some ⟨b,q0,none⟩) c dt) (hr:R (Mu U0 L) w (es.take o++vs++es.drop (o+n)) e) (hi:upd dt iv e=some Dm) (hL:L[i]? = some (some b)) (C:Ctx U0 X0 w0 L w) :
 Fh P N l ⟨none,.store ty x y,t,ps,af,g⟩ w (pz sz E R U0 X0 w0 L w (some ⟨b,q0,none⟩) c Dm):=fun a ha=>by
 obtain⟨h0,h1,rfl⟩:=rD hi;rcases gF h with⟨hA,_⟩ | ⟨b',pre,cur,post,fz,hA,hfz,hg,hle,hm,hsz,he⟩
 ·cases hA
 ·injection hA with hA;injection hA with hA hA2;subst hA;subst hA2;have hk:iv.toNat<dt.length:=by omega
  have hfit0:iv.toNat*sz+sz<=cur.length:=by
   rw[hsz,← Nat.succ_mul];exact Nat.mul_le_mul_right _ (by omega)
  have h1c:=dH.one hr;have hst:=eO P b (pre.length+(iv.toNat*sz+o)) E fz vs 0 _ w hg (by simpa using hfz) (by simp only[List.size_toArray,List.length_append];omega) (fun u hu=>h1c u (by simp[hu]));simp only[Nat.add_zero]at hst;rw[zD (by omega)]at hst;have hseg:cur=cur.take (iv.toNat*sz)++es++cur.drop (iv.toNat*sz+sz):=by
   have he2:(cur.drop (iv.toNat*sz)).take sz=es:=by
    refine List.ext_getElem? fun k=>?_;by_cases hk2:k<sz
    ·have hke:es[k]? = some (es[k]'(by omega)):=List.getElem?_eq_getElem (by omega);have:=hcur k _ hke;simp only[World.cell?,hg]at this;rw[List.getElem?_take,if_pos hk2,List.getElem?_drop,hke,← this,← sQ (pre:=pre) (post:=post) (by omega)];simp
    ·rw[List.getElem?_eq_none (by rw[List.length_take];omega),List.getElem?_eq_none (by omega)]
   rw[← he2,List.append_assoc,← List.drop_drop,List.take_append_drop,List.take_append_drop]
  have hA:(cur.take (iv.toNat*sz)).length=iv.toNat*sz:=by
   rw[List.length_take];omega
  generalize hAA:cur.take (iv.toNat*sz)=A0 at hseg hA;generalize hDD:cur.drop (iv.toNat*sz+sz)=D0 at hseg;have hrow:cur.take (iv.toNat*sz+o)++vs++cur.drop (iv.toNat*sz+o+vs.length)=A0++(es.take o++vs++es.drop (o+n))++D0:=by
   have q1:cur.take (iv.toNat*sz+o)=A0++es.take o:=by
    rw[hseg,← hA,List.append_assoc,List.take_append,Nat.add_sub_cancel_left,List.take_of_length_le (by omega),List.take_append,show o-es.length=0 from by omega,List.take_zero,List.append_nil]
   have q2:cur.drop (iv.toNat*sz+o+vs.length)=es.drop (o+n)++D0:=by
    rw[hseg,← hA,List.append_assoc,Nat.add_assoc,List.drop_append,List.drop_of_length_le (by omega),List.nil_append,Nat.add_sub_cancel_left,hn,List.drop_append,show o+n-es.length=0 from by omega,List.drop_zero]
   rw[q1,q2];simp only[List.append_assoc]
  have hvl:(es.take o++vs++es.drop (o+n)).length=sz:=by
   rw[List.length_append,List.length_append,List.length_take,List.length_drop];omega
  generalize es.take o++vs++es.drop (o+n)=vs1 at hr hrow hvl;obtain⟨k1,k2,k3⟩:=pV C hL hg (cs':=pre++(A0++vs1++D0)++post);have MV:(A0++vs1++D0).length=cur.length:=by
   have:=congrArg List.length hseg;rw[List.length_append,List.length_append]at this;rw[List.length_append,List.length_append];omega
  refine⟨_,?_,?_,k2,k3⟩
  ·simp only[execOp,ha.ev hx,ha.ev hy,Instr.storeAt,Instr.sureAddr,storeVar,Sem.run_bind,Sem.run_pure,Result.andThen_ok,h2,hvs,List.size_toArray,hn];rw[hn]at hrow;simp[hst,hn,hrow]
  ·refine nQ (by rw[zF MV];exact hfz) k1 (by simpa using hle) hm (by rw[MV];exact hsz) ?_;have hset:=fC.set dt _ iv.toNat e vs1 he hk hvl hr;have e1:(A0++vs1++D0).take ((dt.set iv.toNat e).length*sz) =
    (cur.take (dt.length*sz)).take (iv.toNat*sz)++vs1++(cur.take (dt.length*sz)).drop (iv.toNat*sz+sz):=by
    have hk2:iv.toNat*sz+sz<=dt.length*sz:=by rw[← Nat.succ_mul];exact Nat.mul_le_mul_right _ (by omega)
    rw[List.length_set,List.take_take,List.drop_take,Nat.min_eq_left (by omega:iv.toNat*sz<=dt.length*sz),hAA,hDD];rw[List.append_assoc,List.take_append,List.take_of_length_le (by omega),List.take_append,List.take_of_length_le (by omega),← List.append_assoc];congr 2;omega
   rw[e1];exact fC.step k3.h1 k3.mono _ _ hset
end
section
variable {P:Program} {N n0:Nat} {fx:Fx} {its aP:List Item} {κ:List Conc} {w w0:World} {tt:TT} {env:bN} {l:Env} {d:Option Nat} {t:TypeId} {ps:String} {af:Array Edge} {g:Option (Nat×Bool)} {U0:Nat->Prop} {X0:List (Option Nat)} {L:List (Option Nat)}
inductive StrV(its:List Item)(s:List Int):SV->Prop
 | t {j:Nat} (h:its[j]? = some (.str s)):StrV its s (vt j)
 | c {b:ByteArray} (h:strOf b=s):StrV its s (.c (.v (.string b)))
end
section
variable {P:Program} {N n0:Nat} {fx:Fx} {its aP:List Item} {bf:KI} {κ1:List Conc} {env:bN} {tt:TT} {ops:Array Oper} {Kn:Act->World->Prop} {Ke:Nat->Act->World->Prop} {Kr:Act->World->Prop} {bs:List Bool} {fuel:Nat} {rest:List Oper}
theorem SW.f{ks:KB}{d:Nat}{oi:Oper}{v:SV}(D:DK ks bf κ1)(i:Nat)(bs':List Bool)(hi:ops[i]? = some oi)(hg:oi.guard=none)(hd:oi.dst=some d)(he:Eff P N n0 fx env its oi (some v) aP)
 (hk:SD P ops Kn ks bf κ1 fuel bs' N n0 fx ((d,v)::env) aP) (hN:(Nat.blt d N&&v.lt aP.length)=true:=by as_aux_lemma=>kernel_rfl) (hb:bs.set i true=bs':=by rfl) (hK:K3 ks bs' aP=KH ks bf bs':=by as_aux_lemma=>kernel_rfl):SW P ops Kn ks bf κ1 fuel bs N n0 fx env its i:=SW.qM D hi (.inl hg) hd he hN hb hK hk
theorem SW.v{ks:KB}{d:Nat}{oi:Oper}(D:DK ks bf κ1)(i:Nat)(v:SV)(bs':List Bool)(hi:ops[i]? = some oi)(hg:oi.guard=none)(hd:oi.dst=some d)(he:Eff P N n0 fx env its oi (some v) aP)
 (hk:SD P ops Kn ks bf κ1 fuel bs' N n0 fx ((d,v)::env) aP) (hN:(Nat.blt d N&&v.lt aP.length)=true:=by as_aux_lemma=>kernel_rfl) (hb:bs.set i true=bs':=by rfl) (hK:K3 ks bs' aP=KH ks bf bs':=by as_aux_lemma=>kernel_rfl):SW P ops Kn ks bf κ1 fuel bs N n0 fx env its i:=SW.qM D hi (.inl hg) hd he hN hb hK hk
theorem SW.w(cK:dX P tt){ks:KB}{d:Nat}{op:Op}{t:TypeId}{ps:String}{af:Array Edge}(D:DK ks bf κ1)(i:Nat)(v:SV)(bs':List Bool)(hi:ops[i]? = some ⟨some d,op,t,ps,af,none⟩)(hk:SD P ops Kn ks bf κ1 fuel bs' N n0 fx ((d,v)::env) its)(hv:uj tt (fun _=>true) its (jD env) op=some v:=by as_aux_lemma=>kernel_rfl)
 (hN:(Nat.blt d N&&v.lt its.length)=true:=by as_aux_lemma=>kernel_rfl) (hb:bs.set i true=bs':=by rfl) (hK:K3 ks bs' its=KH ks bf bs':=by as_aux_lemma=>kernel_rfl):SW P ops Kn ks bf κ1 fuel bs N n0 fx env its i:=SW.qM D hi (.inl rfl) rfl (mY cK hv) hN hb hK hk
theorem SD.t{ks:KB}(cK:dX P tt)(D:DK ks bf κ1)(is:List Nat)(bs':List Bool)(env':bN){fuel':Nat}(hk:SD P ops Kn ks bf κ1 fuel' bs' N n0 fx env' its)(hf:fuel=fuel'+is.length:=by rfl)(hsel:Region.noSelect ops=true:=by as_aux_lemma=>kernel_rfl)(hK:K3 ks bs its=KH ks bf bs:=by as_aux_lemma=>kernel_rfl)
 (h:Ih N tt [] ks.2.2 bf its.length ops is [] bs env (env'.map (·.1))=some (bs',env',[],[]):=by as_aux_lemma=>kernel_rfl):SD P ops Kn ks bf κ1 fuel bs N n0 fx env its:=SD.tk5 cK D [] qC is [] [] bs' env' hf hsel hK h hk
def kv(t:Nat)(env:bN):SV:=match Di t env with
 | some v=>v
 | none=>.u []
def kp:List Nat->bN->bN->bN
 | [],_,new=>new
 | t::ts,env,new=>(t,kv t env)::kp ts env new
theorem M.d(cK:dX P tt)(k:Nat)(ts:List Nat)(new:bN)(ch:List (Nat×TypeId×List Cell))(evs:List Kh)(q:List Int)(hk:M P ops (rest.drop k) Kn N n0 fx (kp ts env new) (ch.foldl (fun i c=>kW i c.1 c.2.1 c.2.2) its))
 (h:C9 N tt (fun _=>true) ops (rest.take k) evs env its ((kp ts env new).map (·.1))=some (kp ts env new,ch.foldl (fun i c=>kW i c.1 c.2.1 c.2.2) its,q,q):=by as_aux_lemma=>kernel_rfl):M P ops rest Kn N n0 fx env its:=M.sim cK k _ ch evs q h hk
theorem Z.d(cK:dX P tt){id:Nat}{os:List Oper}{y:Code}(ts:List Nat)(new:bN)(ch:List (Nat×TypeId×List Cell))(evs:List Kh)(q:List Int)(hk:Z P y Kn Ke Kr N n0 fx (kp ts env new) (ch.foldl (fun i c=>kW i c.1 c.2.1 c.2.2) its))
 (h:C9 N tt (fun _=>true) os.toArray os evs env its ((kp ts env new).map (·.1))=some (kp ts env new,ch.foldl (fun i c=>kW i c.1 c.2.1 c.2.2) its,q,q):=by as_aux_lemma=>kernel_rfl):Z P (.seq (.region id os.toArray false) y) Kn Ke Kr N n0 fx env its:=Z.r cK _ ch evs q h hk
theorem M.n(cK:dX P tt)(k:Nat)(ts:List Nat)(new:bN)(hk:M P ops (rest.drop k) Kn N n0 fx (kp ts env new) its)(h:C9 N tt (fun _=>true) ops (rest.take k) [] env its ((kp ts env new).map (·.1))=some (kp ts env new,its,[],[]):=by as_aux_lemma=>kernel_rfl):M P ops rest Kn N n0 fx env its:=M.sim cK k _ [] [] [] h hk
theorem Z.n(cK:dX P tt){id:Nat}{os:List Oper}{y:Code}(ts:List Nat)(new:bN)(hk:Z P y Kn Ke Kr N n0 fx (kp ts env new) its)(h:C9 N tt (fun _=>true) os.toArray os [] env its ((kp ts env new).map (·.1))=some (kp ts env new,its,[],[]):=by as_aux_lemma=>kernel_rfl):Z P (.seq (.region id os.toArray false) y) Kn Ke Kr N n0 fx env its:=Z.r cK _ [] [] [] h hk
theorem SD.d{ks:KB}(cK:dX P tt)(D:DK ks bf κ1)(kn:List (Nat×Bool))(hkn:Uy kn env)(is:List Nat)(evs:List Kh)(q:List Int)(bs':List Bool)(ts:List Nat)(new:bN){fuel':Nat}(hk:SD P ops Kn ks bf κ1 fuel' bs' N n0 fx (kp ts env new) its)(hf:fuel=fuel'+is.length:=by rfl)(hsel:Region.noSelect ops=true:=by as_aux_lemma=>kernel_rfl)(hK:K3 ks bs its=KH ks bf bs:=by as_aux_lemma=>kernel_rfl)
 (h:Ih N tt kn ks.2.2 bf its.length ops is evs bs env ((kp ts env new).map (·.1))=some (bs',kp ts env new,q,q):=by as_aux_lemma=>kernel_rfl):SD P ops Kn ks bf κ1 fuel bs N n0 fx env its:=SD.tk5 cK D kn hkn is evs q bs' _ hf hsel hK h hk
theorem SD.n{ks:KB}(cK:dX P tt)(D:DK ks bf κ1)(is:List Nat)(bs':List Bool)(ts:List Nat)(new:bN){fuel':Nat}(hk:SD P ops Kn ks bf κ1 fuel' bs' N n0 fx (kp ts env new) its)(hf:fuel=fuel'+is.length:=by rfl)(hsel:Region.noSelect ops=true:=by as_aux_lemma=>kernel_rfl)(hK:K3 ks bs its=KH ks bf bs:=by as_aux_lemma=>kernel_rfl)
 (h:Ih N tt [] ks.2.2 bf its.length ops is [] bs env ((kp ts env new).map (·.1))=some (bs',kp ts env new,[],[]):=by as_aux_lemma=>kernel_rfl):SD P ops Kn ks bf κ1 fuel bs N n0 fx env its:=SD.tk5 cK D [] qC is [] [] bs' _ hf hsel hK h hk
def gr:List (Nat×Nat)->List Jx
 | []=>[]
 | (a,n)::r=>(List.range n).map (fun i=>Jx.g (a+i))++gr r
theorem M.f{d:Nat}{op:Op}{t:TypeId}{ps:String}{af:Array Edge}{v:SV}(h:Eff P N n0 fx env its ⟨some d,op,t,ps,af,none⟩ (some v) aP)(hk:M P ops rest Kn N n0 fx ((d,v)::env) aP)(hd:Nat.blt d N=true:=by rfl)(hv:v.lt aP.length=true:=by as_aux_lemma=>kernel_rfl):M P ops (⟨some d,op,t,ps,af,none⟩::rest) Kn N n0 fx env its:=M.qM h hd hv hk
theorem A.t{a:Act}{w:World}{env':bN}(h:A N n0 fx env its a w)(js:List Jx)(e:(FT js env',jT js aP,CZ n0 its.length js env' aP (qB env env') (srcs its js aP))=(qB env env',srcs its js aP,true):=by as_aux_lemma=>kernel_rfl):A N n0 fx env' aP a w:=h.at e
theorem Z.q{fn:Func}{rs:SV}(cK:dX P tt)(js:List Jx)(e:((rP js rs,(rP js rs).isSome),jT js aP,CZ n0 its.length js [(0,rs)] aP (some []) (srcs its js aP))=(((y9 tt env its fn.results.toList).bind KP,true),srcs its js aP,true):=by as_aux_lemma=>kernel_rfl):Z P .ret Kn Ke (LJ P fn n0 fx rs aP) N n0 fx env its:=Z.re cK e
theorem Z.j{c:Operand}{x y:Code}{α:Type}{e:Bool}{X Y:Option α}{r:α}(hp:(if e=true then X else Y)=some r)(ht:X=some r->Z P x Kn Ke Kr N n0 fx env its)(hf:Y=some r->Z P y Kn Ke Kr N n0 fx env its)(hc:jD env c=some (vb e):=by as_aux_lemma=>kernel_rfl):Z P (.cond c x y) Kn Ke Kr N n0 fx env its:=Z.if' hc hp ht hf
theorem SD.w{ks:KB}{env':bN}(D:DK ks bf κ1)(js:List Jx)(hk:SD P ops Kn ks bf κ1 fuel bs N n0 fx env' aP)(e:(preB bf.1.length js,FT js env',jT js aP,CZ n0 its.length js env' aP (qB env env') (srcs its js aP))=(true,qB env env',srcs its js aP,true):=by as_aux_lemma=>kernel_rfl):SD P ops Kn ks bf κ1 fuel bs N n0 fx env its:=SD.view D js hk e
theorem bB(b:Bool):b=true∨b=false:=Bool.eq_false_or_eq_true b
theorem M.m(cK:dX P tt)(k:Nat)(env':bN)(hk:M P ops (rest.drop k) Kn N n0 fx env' its)(h:C9 N tt (fun _=>true) ops (rest.take k) [] env its (env'.map (·.1))=some (env',its,[],[]):=by as_aux_lemma=>kernel_rfl):M P ops rest Kn N n0 fx env its:=M.sim cK k env' [] [] [] h hk
theorem Z.m(cK:dX P tt){id:Nat}{os:List Oper}{y:Code}(env':bN)(hk:Z P y Kn Ke Kr N n0 fx env' its)(h:C9 N tt (fun _=>true) os.toArray os [] env its (env'.map (·.1))=some (env',its,[],[]):=by as_aux_lemma=>kernel_rfl):Z P (.seq (.region id os.toArray false) y) Kn Ke Kr N n0 fx env its:=Z.r cK env' [] [] [] h hk
theorem Z.s{id:Nat}{os:List Oper}{y:Code}(h:M P os.toArray os (fun a w=>Hq P fx.px y Kn Ke Kr a w) N n0 fx env its):Z P (.seq (.region id os.toArray false) y) Kn Ke Kr N n0 fx env its:=Z.seq (Z.reg h)
end
end V
end Go.Proofs.YtbgfhaahhdnogaaGreat
