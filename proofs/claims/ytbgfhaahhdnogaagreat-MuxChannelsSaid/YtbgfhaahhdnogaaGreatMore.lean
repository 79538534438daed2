/- Small steps: rows given up, nil rows, values with evidence. -/
import Derived.Test.YtbgfhaahhdnogaaGreatDrw
namespace Go.Proofs.YtbgfhaahhdnogaaGreat
namespace V
section
variable {P:Program} {N n0:Nat} {fx:Fx} {its aR:List Item} {κ:List Conc} {w:World} {env env':bP} {tt:TT} {ops:Array Oper} {rest:List Oper} {Kn:Act->World->Prop} {Ke:Nat->Act->World->Prop} {Kr:Act->World->Prop}
theorem wo{n t x}(h:yh n env=true)(hx:x.lt n=true):yh n ((t,x)::env)=true:=by
 unfold yh at h |-;rw[List.all_cons,h,hx];rfl
theorem fT:Pre n0 fx env its (kl its):=fun κ w S=>⟨[],by rw[List.append_nil];exact S.kill⟩
theorem rz{o v}(bZ:eu P tt)e q(h:svE tt its (jN env) o.op e=some (v,q,q)):Eff P N n0 fx env its o (some v) its:=fun κ w S a ha=>by
 obtain⟨d,op,t,ps,af,g⟩:=o;exact .inl ⟨_,w,LD bZ S.NZ (fun x v h=>eD h) h a ha,[],fun x hx=>(by injection hx with hx;subst hx;rw[List.append_nil]),by rw[List.append_nil];exact S⟩
section
variable {α:Type} {sz:Nat} {E:TypeId} {R:RT α} [dM R]
theorem pF{i l}(hi:its[i]?=some (.o sz E R l)):Pre n0 fx env its (its.set i (.d sz R l)):=fun κ w S=>by
 refine⟨[],?_⟩;rw[List.append_nil];obtain⟨c,hc,hok⟩:=S.iy hi;have hil:i<its.length:=(List.getElem?_eq_some_iff.1 hi).1;have hlen:(dL its κ).length=its.length:=by simp[dL,S.len]
 have hL:∀(j b:Nat),(dL (its.set i (.d sz R l)) κ)[j]?=some (some b)->j≠i/\(dL its κ)[j]?=some (some b):=by
  intro j b h;by_cases e:j=i
  .subst e;have h1:=bU (its:=its.set j (.d sz R l)) (by rw[List.getElem?_set_self hil]) hc;rw[h1]at h;cases c<;>cases h
  .refine⟨e,?_⟩;unfold dL at h |-;rw[List.getElem?_zipWith]at h |-;rwa [List.getElem?_set_ne (fun h=>e h.symm)]at h
 have hmem:∀b,some b∈dL (its.set i (.d sz R l)) κ->some b∈dL its κ:=by
  intro b hb;obtain⟨j,hj⟩:=List.getElem?_of_mem hb;exact List.mem_of_getElem? (hL j b hj).2
 refine⟨by simp[S.len],S.pre,S.n0,by simpa using S.sj,?_,S.ctx.of id (fun j b h=>(hL j b h).2) (fun _ _ _ _ _ e=>e),fun j it c' h1 h2=>?_⟩
 .unfold oP;rw[List.length_set,List.all_eq_true];intro it hit;have hs:=S.Fe;unfold oP at hs;rw[List.all_eq_true]at hs;rcases List.mem_or_eq_of_mem_set hit with h|h
  .exact hs _ h
  .subst h;rfl
 .have hU:∀b,Mu fx.U0 (dL (its.set i (.d sz R l)) κ) b->Mu fx.U0 (dL its κ) b:=Mu.weaken hmem;by_cases e:j=i
  .subst e;rw[List.getElem?_set_self hil]at h1;injection h1 with h1;subst h1;rw[hc]at h2;injection h2 with h2;subst h2;cases c with
   | r A n c=>
     refine⟨hok.1,hok.2.toSl (fun b hb hM=>?_) hU⟩;have Uk:=bU hi hc;simp only[iM,hb]at Uk;rcases hM with h|h
     .exact(S.ctx.live b (List.mem_of_getElem? Uk)).2.1 h
     .obtain⟨k,hk⟩:=List.getElem?_of_mem h;obtain⟨h3,h4⟩:=hL k b hk;exact S.ctx.sep k j b h3 h4 Uk
   | _=>exact hok.elim
  .rw[List.getElem?_set_ne (fun h=>e h.symm)]at h1;have hsc:it.lt κ.length=true:=by
    have h3:=S.Fe;unfold oP at h3;rw[List.all_eq_true]at h3;rw[S.len];exact h3 _ (List.mem_of_getElem? h1)
   have:=OK.ext (κx:=[]) hsc hU (S.ok j it c' h1 h2);rwa [List.append_nil]at this
end
theorem M.yes{d:Option Nat}{op t ps af}{j:Nat}{b x}{s:Nat}(hj:(ops[j]?).bind (·.dst)=some s)(hs:EA s env=some (vb x))(hx:x=b)
 (h:M P ops (⟨d,op,t,ps,af,none⟩::rest) Kn N n0 fx env its):M P ops (⟨d,op,t,ps,af,some (j,b)⟩::rest) Kn N n0 fx env its:=fun κ w S=>WL.yes hj (by have:=iZ (κ:=κ) hs;simpa [SV.den,Cell.den]using this) hx (h κ w S)
theorem M.no{d op t ps af}{j:Nat}{b x}{s:Nat}(hj:(ops[j]?).bind (·.dst)=some s)(hs:EA s env=some (vb x))(hx:x = !b)(hd:Nat.blt d N=true)
 (h:M P ops rest Kn N n0 fx ((d,.u [])::env) its):M P ops (⟨some d,op,t,ps,af,some (j,b)⟩::rest) Kn N n0 fx env its:=fun κ w S=>WL.no hj (by have:=iZ (κ:=κ) hs;simpa [SV.den,Cell.den]using this) hx hd (h κ w (S.env (wo S.sj rfl)))
theorem M.Ws{d op t ps af}{j:Nat}{b}{s:Nat}(hj:(ops[j]?).bind (·.dst)=some s)(hs:EA s env=some (.u []))(hd:Nat.blt d N=true)
 (h:M P ops rest Kn N n0 fx ((d,.u [])::env) its):M P ops (⟨some d,op,t,ps,af,some (j,b)⟩::rest) Kn N n0 fx env its:=fun κ w S=>WL.Ws hj (iZ (κ:=κ) hs) hd (h κ w (S.env (wo S.sj rfl)))
theorem M.jg{d c x y t ps af b v}(hc:jN env c=some (vb b))(hb:b=true)(hx:jN env x=some v)(hd:Nat.blt d N=true)
 (h:M P ops rest Kn N n0 fx ((d,v)::env) its):M P ops (⟨some d,.pick c x y,t,ps,af,none⟩::rest) Kn N n0 fx env its:=fun κ w S=>WL.val (yj (eD hc) hb (eD hx)) hd (h κ w (S.env (wo S.sj (UE S.sj hx))))
theorem M.iW{d c x y t ps af b v}(hc:jN env c=some (vb b))(hb:b=false)(hy:jN env y=some v)(hd:Nat.blt d N=true)
 (h:M P ops rest Kn N n0 fx ((d,v)::env) its):M P ops (⟨some d,.pick c x y,t,ps,af,none⟩::rest) Kn N n0 fx env its:=fun κ w S=>WL.val (yt (eD hc) hb (eD hy)) hd (h κ w (S.env (wo S.sj (UE S.sj hy))))
theorem A.at{a js}(h:A N n0 fx env its a w)(e:(Hf js env',j5 js aR,DW n0 its.length js env' aR (qY env env') (srcs its js aR))=(qY env env',srcs its js aR,true)):A N n0 fx env' aR a w:=by
 injection e with h1 e;injection e with h2 h3;exact h.to js (by rw[h1,h2]) h3
theorem Z.mid{c}J(h:Z P c J Ke Kr N n0 fx env its)(h2:∀a w,J a w->Kn a w):Z P c Kn Ke Kr N n0 fx env its:=fun κ w S a ha=>
 wp_mono (h κ w S a ha) fun e a w hq=>by
  cases e
  case normal=>exact h2 a w hq
  all_goals exact hq
theorem A.re{a fn rs js}(bZ:eu P tt)(h:A N n0 fx env its a w)(e:((sN js rs,(sN js rs).isSome),j5 js aR,DW n0 its.length js [(0,rs)] aR (some []) (srcs its js aR))=(((zQ tt env its fn.results.toList).bind LU,true),srcs its js aR,true)):M7 P fn n0 fx rs aR a w:=by
 injection e with h1 e;injection e with h2 h3;exact A.ret bZ h js (by rw[h1,h2]) h3
theorem Z.re{fn rs js}(bZ:eu P tt)(e:((sN js rs,(sN js rs).isSome),j5 js aR,DW n0 its.length js [(0,rs)] aR (some []) (srcs its js aR))=(((zQ tt env its fn.results.toList).bind LU,true),srcs its js aR,true)):Z P .ret Kn Ke (M7 P fn n0 fx rs aR) N n0 fx env its:=fun κ w S=>
 WC.ret fun a ha=>A.re bZ ⟨κ,ha,S⟩ e
theorem Z.loop{c}(G:Nat->Act->World->Prop)n1(h0:∀a w,A N n0 fx env its a w->G n1 a w)(round:∀n a w,G n a w->IL P fx.px c (fun a w=>∃m,m<n/\G m a w) Ke Kr a w):Z P (.loop c) Kn Ke Kr N n0 fx env its:=fun κ w S=>
 WC.loop G n1 (fun a ha=>h0 a w ⟨κ,ha,S⟩) round
theorem bD{f o M4 fV jh Zr}(hc:∀args w,(callFunc f args).run P w=.ok (.enter f args) w)(spec:Spec P f M4 fV Zr jh)js as v
 (e:(((Ve env o.op,j5 js fV),Zn its.length fV.length js Zr),zi js M4,cB its js M4 fV,cB2 (zD js fV jh its) v)=(((some (f,as),srcs its js fV),some v),some as,true,true)) (hF:MC js=false\/Gp fV.length jh) :
 Eff P N n0 fx env its o (some v) ((zD js fV jh its).getD []):=by
 injection e with h1 e;injection e with h2 e;injection e with h3 h4;exact UQ hc spec js v (by rw[h1,h2];rfl) h2 h3 h4 hF
end
end V
end Go.Proofs.YtbgfhaahhdnogaaGreat
