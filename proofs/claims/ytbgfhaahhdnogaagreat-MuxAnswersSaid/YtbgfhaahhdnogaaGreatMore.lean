/- Small steps: rows given up, nil rows, values with evidence. -/
import Derived.Test.YtbgfhaahhdnogaaGreatDrw
namespace Go.Proofs.YtbgfhaahhdnogaaGreat
namespace V
section
variable {P:Program} {N n0:Nat} {fx:Fx} {its aP:List Item} {κ:List Conc} {w:World} {env env':bN} {tt:TT} {ops:Array Oper} {rest:List Oper} {Kn:Act->World->Prop} {Ke:Nat->Act->World->Prop} {Kr:Act->World->Prop}
theorem vv{n t:Nat}{x:SV}(h:xB n env=true)(hx:x.lt n=true):xB n ((t,x)::env)=true:=by
 unfold xB at h ⊢;rw[List.all_cons,h,hx];rfl
theorem fO:Pre n0 fx env its (kl its):=fun κ w S=>⟨[],by rw[List.append_nil];exact S.kill⟩
theorem qE{o:Oper}{v:SV}(cK:dX P tt)(e:Kh)(q:List Int)(h:Zx tt its (jD env) o.op e=some (v,q,q)):Eff P N n0 fx env its o (some v) its:=fun κ w S a ha=>by
 obtain⟨d,op,t,ps,af,g⟩:=o;exact .inl ⟨_,w,KF cK S.MQ (fun x v h=>eD h) h a ha,[],fun x hx=>(by injection hx with hx;subst hx;rw[List.append_nil]),by rw[List.append_nil];exact S⟩
section
variable {α:Type} {sz:Nat} {E:TypeId} {R:RT α} [dH R]
theorem pF{i:Nat}{l:List α}(hi:its[i]? = some (.o sz E R l)):Pre n0 fx env its (its.set i (.d sz R l)):=fun κ w S=>by
 refine⟨[],?_⟩;rw[List.append_nil];obtain⟨c,hc,hok⟩:=S.gP hi;have hil:i<its.length:=(List.getElem?_eq_some_iff.1 hi).1;have hlen:(dG its κ).length=its.length:=by simp[dG,S.len]
 have hL:∀(j b:Nat),(dG (its.set i (.d sz R l)) κ)[j]? = some (some b)->j≠i/\(dG its κ)[j]? = some (some b):=by
  intro j b h;by_cases e:j=i
  ·subst e;have h1:=bV (its:=its.set j (.d sz R l)) (by rw[List.getElem?_set_self hil]) hc;rw[h1]at h;cases c <;> cases h
  ·refine⟨e,?_⟩;unfold dG at h ⊢;rw[List.getElem?_zipWith]at h ⊢;rwa [List.getElem?_set_ne (fun h=>e h.symm)]at h
 have hmem:∀b,some b∈dG (its.set i (.d sz R l)) κ->some b∈dG its κ:=by
  intro b hb;obtain⟨j,hj⟩:=List.getElem?_of_mem hb;exact List.mem_of_getElem? (hL j b hj).2
 refine⟨by simp[S.len],S.pre,S.n0,by simpa using S.qZ,?_,S.ctx.of id (fun j b h=>(hL j b h).2) (fun _ _ _ _ _ e=>e),fun j it c' h1 h2=>?_⟩
 ·unfold oq;rw[List.length_set,List.all_eq_true];intro it hit;have hs:=S.DW;unfold oq at hs;rw[List.all_eq_true]at hs;rcases List.mem_or_eq_of_mem_set hit with h | h
  ·exact hs _ h
  ·subst h;rfl
 ·have hU:∀b,Mu fx.U0 (dG (its.set i (.d sz R l)) κ) b->Mu fx.U0 (dG its κ) b:=Mu.weaken hmem;by_cases e:j=i
  ·subst e;rw[List.getElem?_set_self hil]at h1;injection h1 with h1;subst h1;rw[hc]at h2;injection h2 with h2;subst h2;cases c with
   | r A n c=>
     refine⟨hok.1,hok.2.toSl (fun b hb hM=>?_) hU⟩;have RQ:=bV hi hc;simp only[iC,hb]at RQ;rcases hM with h | h
     ·exact(S.ctx.live b (List.mem_of_getElem? RQ)).2.1 h
     ·obtain⟨k,hk⟩:=List.getElem?_of_mem h;obtain⟨h3,h4⟩:=hL k b hk;exact S.ctx.sep k j b h3 h4 RQ
   | _=>exact hok.elim
  ·rw[List.getElem?_set_ne (fun h=>e h.symm)]at h1;have hsc:it.lt κ.length=true:=by
    have h3:=S.DW;unfold oq at h3;rw[List.all_eq_true]at h3;rw[S.len];exact h3 _ (List.mem_of_getElem? h1)
   have:=OK.ext (κx:=[]) hsc hU (S.ok j it c' h1 h2);rwa [List.append_nil]at this
end
theorem M.yes{d:Option Nat}{op:Op}{t:TypeId}{ps:String}{af:Array Edge}{j:Nat}{b x:Bool}{s:Nat}(hj:(ops[j]?).bind (·.dst)=some s)(hs:Di s env=some (vb x))(hx:x=b)
 (h:M P ops (⟨d,op,t,ps,af,none⟩::rest) Kn N n0 fx env its):M P ops (⟨d,op,t,ps,af,some (j,b)⟩::rest) Kn N n0 fx env its:=fun κ w S=>WL.yes hj (by have:=iO (κ:=κ) hs;simpa [SV.den,Cell.den]using this) hx (h κ w S)
theorem M.no{d:Nat}{op:Op}{t:TypeId}{ps:String}{af:Array Edge}{j:Nat}{b x:Bool}{s:Nat}(hj:(ops[j]?).bind (·.dst)=some s)(hs:Di s env=some (vb x))(hx:x = !b)(hd:Nat.blt d N=true)
 (h:M P ops rest Kn N n0 fx ((d,.u [])::env) its):M P ops (⟨some d,op,t,ps,af,some (j,b)⟩::rest) Kn N n0 fx env its:=fun κ w S=>WL.no hj (by have:=iO (κ:=κ) hs;simpa [SV.den,Cell.den]using this) hx hd (h κ w (S.env (vv S.qZ rfl)))
theorem M.UJ{d:Nat}{op:Op}{t:TypeId}{ps:String}{af:Array Edge}{j:Nat}{b:Bool}{s:Nat}(hj:(ops[j]?).bind (·.dst)=some s)(hs:Di s env=some (.u []))(hd:Nat.blt d N=true)
 (h:M P ops rest Kn N n0 fx ((d,.u [])::env) its):M P ops (⟨some d,op,t,ps,af,some (j,b)⟩::rest) Kn N n0 fx env its:=fun κ w S=>WL.UJ hj (iO (κ:=κ) hs) hd (h κ w (S.env (vv S.qZ rfl)))
theorem M.iL{d:Nat}{c x y:Operand}{t:TypeId}{ps:String}{af:Array Edge}{b:Bool}{v:SV}(hc:jD env c=some (vb b))(hb:b=true)(hx:jD env x=some v)(hd:(Nat.blt d N)=true)
 (h:M P ops rest Kn N n0 fx ((d,v)::env) its):M P ops (⟨some d,.pick c x y,t,ps,af,none⟩::rest) Kn N n0 fx env its:=fun κ w S=>WL.val (xC (eD hc) hb (eD hx)) hd (h κ w (S.env (vv S.qZ (Si S.qZ hx))))
theorem M.iB{d:Nat}{c x y:Operand}{t:TypeId}{ps:String}{af:Array Edge}{b:Bool}{v:SV}(hc:jD env c=some (vb b))(hb:b=false)(hy:jD env y=some v)(hd:(Nat.blt d N)=true)
 (h:M P ops rest Kn N n0 fx ((d,v)::env) its):M P ops (⟨some d,.pick c x y,t,ps,af,none⟩::rest) Kn N n0 fx env its:=fun κ w S=>WL.val (xD (eD hc) hb (eD hy)) hd (h κ w (S.env (vv S.qZ (Si S.qZ hy))))
theorem A.at{a:Act}{js:List Jx}(h:A N n0 fx env its a w)(e:(FT js env',jT js aP,CZ n0 its.length js env' aP (qB env env') (srcs its js aP))=(qB env env',srcs its js aP,true)):A N n0 fx env' aP a w:=by
 injection e with h1 e;injection e with h2 h3;exact h.to js (by rw[h1,h2]) h3
theorem Z.mid{c:Code}(J:Act->World->Prop)(h:Z P c J Ke Kr N n0 fx env its)(h2:∀a w,J a w->Kn a w):Z P c Kn Ke Kr N n0 fx env its:=fun κ w S a ha=>
 wp_mono (h κ w S a ha) fun e a w hq=>by
  cases e
  case normal=>exact h2 a w hq
  all_goals exact hq
theorem A.re{a:Act}{fn:Func}{rs:SV}{js:List Jx}(cK:dX P tt)(h:A N n0 fx env its a w)(e:((rP js rs,(rP js rs).isSome),jT js aP,CZ n0 its.length js [(0,rs)] aP (some []) (srcs its js aP))=(((y9 tt env its fn.results.toList).bind KP,true),srcs its js aP,true)):LJ P fn n0 fx rs aP a w:=by
 injection e with h1 e;injection e with h2 h3;exact A.ret cK h js (by rw[h1,h2]) h3
theorem Z.re{fn:Func}{rs:SV}{js:List Jx}(cK:dX P tt)(e:((rP js rs,(rP js rs).isSome),jT js aP,CZ n0 its.length js [(0,rs)] aP (some []) (srcs its js aP))=(((y9 tt env its fn.results.toList).bind KP,true),srcs its js aP,true)):Z P .ret Kn Ke (LJ P fn n0 fx rs aP) N n0 fx env its:=fun κ w S=>
 WC.ret fun a ha=>A.re cK ⟨κ,ha,S⟩ e
theorem Z.loop{c:Code}(G:Nat->Act->World->Prop)(n1:Nat)(h0:∀a w,A N n0 fx env its a w->G n1 a w)(round:∀n a w,G n a w->Hq P fx.px c (fun a w=>∃m,m<n/\G m a w) Ke Kr a w):Z P (.loop c) Kn Ke Kr N n0 fx env its:=fun κ w S=>
 WC.loop G n1 (fun a ha=>h0 a w ⟨κ,ha,S⟩) round
theorem bA{f:FuncId}{o:Oper}{LD:List SV}{fP iT:List Item}{X3:SV}(hc:∀args w,(callFunc f args).run P w=.ok (.enter f args) w)(spec:Spec P f LD fP X3 iT)(js:List Jx)(as:List SV)(v:SV)
 (e:(((Ta env o.op,jT js fP),XW its.length fP.length js X3),yK js LD,cB its js LD fP,cB2 (yU js fP iT its) v)=(((some (f,as),srcs its js fP),some v),some as,true,true)) (hF:Ld js=false∨Fp fP.length iT) :
 Eff P N n0 fx env its o (some v) ((yU js fP iT its).getD []):=by
 injection e with h1 e;injection e with h2 e;injection e with h3 h4;exact SE hc spec js v (by rw[h1,h2];rfl) h2 h3 h4 hF
end
end V
end Go.Proofs.YtbgfhaahhdnogaaGreat
