/- Small steps: rows given up, nil rows, values with evidence. -/
import Derived.Test.YtbgfhaahhdnogaaGreatDrw
namespace Go.Proofs.YtbgfhaahhdnogaaGreat
namespace V
section
variable {P:Program} {N n0:Nat} {fx:Fx} {its aW:List Item} {κ:List Conc} {w:World} {env env':bO} {tt:TT} {ops:Array Oper} {rest:List Oper} {Kn:Act→World→Prop} {Ke:Nat→Act→World→Prop} {Kr:Act→World→Prop}
theorem qX{n t:Nat}{x:SV}(h:sN n env=true)(hx:x.lt n=true):sN n ((t,x)::env)=true:=by
 unfold sN at h ⊢
 rw[List.all_cons,h,hx]
 rfl
theorem fP:Pre n0 fx env its (kl its):=fun κ w S=>⟨[],by rw[List.append_nil]; exact S.kill⟩
theorem nM{o:Oper}{v:SV}(bW:dQ P tt)(e:D8)(q:List Int)(h:Rn tt its (iM env) o.op e=some (v,q,q)):Eff P N n0 fx env its o (some v) its:=fun κ w S a ha=>by
 obtain⟨d,op,t,ps,af,g⟩:=o
 exact .inl ⟨_,w,EM bW S.IL (fun x v h=>eD h) h a ha,[],fun x hx=>(by injection hx with hx; subst hx; rw[List.append_nil]),by rw[List.append_nil]; exact S⟩
section
variable {α:Type} {sz:Nat} {E:TypeId} {R:RT α} [dG R]
theorem pF{i:Nat}{l:List α}(hi:its[i]? = some (.o sz E R l)):Pre n0 fx env its (its.set i (.d sz R l)):=fun κ w S=>by
 refine⟨[],?_⟩
 rw[List.append_nil]
 obtain⟨c,hc,hok⟩:=S.gJ hi
 have hil:i<its.length:=(List.getElem?_eq_some_iff.1 hi).1
 have hlen:(dD its κ).length=its.length:=by simp[dD,S.len]
 have hL:∀(j b:Nat),(dD (its.set i (.d sz R l)) κ)[j]? = some (some b)→j≠i∧(dD its κ)[j]? = some (some b):=by
  intro j b h
  by_cases e:j=i
  ·subst e
   have h1:=cu (its:=its.set j (.d sz R l)) (by rw[List.getElem?_set_self hil]) hc
   rw[h1]at h
   cases c <;> cases h
  ·refine⟨e,?_⟩
   unfold dD at h ⊢
   rw[List.getElem?_zipWith]at h ⊢
   rwa [List.getElem?_set_ne (fun h=>e h.symm)]at h
 have hmem:∀b,some b∈dD (its.set i (.d sz R l)) κ→some b∈dD its κ:=by
  intro b hb
  obtain⟨j,hj⟩:=List.getElem?_of_mem hb
  exact List.mem_of_getElem? (hL j b hj).2
 refine⟨by simp[S.len],S.pre,S.n0,by simpa using S.l9,?_,S.ctx.of id (fun j b h=>(hL j b h).2) (fun _ _ _ _ _ e=>e),fun j it c' h1 h2=>?_⟩
 ·unfold mH
  rw[List.length_set,List.all_eq_true]
  intro it hit
  have hs:=S.BL
  unfold mH at hs
  rw[List.all_eq_true]at hs
  rcases List.mem_or_eq_of_mem_set hit with h | h
  ·exact hs _ h
  ·subst h; rfl
 ·have hU:∀b,Mu fx.U0 (dD (its.set i (.d sz R l)) κ) b→Mu fx.U0 (dD its κ) b:=Mu.weaken hmem
  by_cases e:j=i
  ·subst e
   rw[List.getElem?_set_self hil]at h1
   injection h1 with h1
   subst h1
   rw[hc]at h2
   injection h2 with h2
   subst h2
   cases c with
   | r A n c=>
     refine⟨hok.1,hok.2.VG (fun b hb hM=>?_) hU⟩
     have K9:=cu hi hc
     simp only[gT,hb]at K9
     rcases hM with h | h
     ·exact(S.ctx.live b (List.mem_of_getElem? K9)).2.1 h
     ·obtain⟨k,hk⟩:=List.getElem?_of_mem h
      obtain⟨h3,h4⟩:=hL k b hk
      exact S.ctx.sep k j b h3 h4 K9
   | _=>exact hok.elim
  ·rw[List.getElem?_set_ne (fun h=>e h.symm)]at h1
   have hsc:it.lt κ.length=true:=by
    have h3:=S.BL
    unfold mH at h3
    rw[List.all_eq_true]at h3
    rw[S.len]
    exact h3 _ (List.mem_of_getElem? h1)
   have:=OK.ext (κx:=[]) hsc hU (S.ok j it c' h1 h2)
   rwa [List.append_nil]at this
theorem AQ(bW:dQ P tt){d:Option Nat}{t:TypeId}{ps:String}{af:Array Edge}{g:Option (Nat×Bool)}{ty:TypeId}{x y:Operand}{bK:Nat}{m l':List α}{v:SV}(hx:iM env x=some vn)(hy:iM env y=some v)(hm:Sx its sz R m v)
 (ha:app bK [] m=some l') (hT:(yc tt ty E sz bK && !its.any Item.ow)=true) :
 Eff P N n0 fx env its ⟨d,.call { callee:=.builtin .append,args:=#[x,y],argTypes:=#[ty,ty] },t,ps,af,g⟩ (some (vs its.length)) (its++[.o sz E R l']):=fun κ w S a vL=>by
 simp only[Bool.and_eq_true,Bool.not_eq_true']at hT
 obtain⟨hT,how⟩:=hT
 obtain⟨hu,⟨info,z,uZ,h1,h2,h3,h4⟩,hpos,_⟩:=iW bW hT
 obtain⟨B,nb,cb,hv,hnb,hs⟩:=hm.src S
 have hx':=eD (κ:=κ) hx
 have hy':=eD (κ:=κ) hy
 rw[hv]at hy'
 have hs':Src sz R (Mu fx.U0 (none::dD its κ)) w B m:=by
  obtain⟨es,h5,h6⟩:=hs
  exact⟨es,dZ.step (fun _ _ _=>rfl) (fun b _ hb=>Mu.weaken (fun b hb=>by simpa using hb) b hb) _ _ h5,h6⟩
 refine Does.kL (y7 (i:=0) (dt:=[]) (A:=none) (c:=0) hu uZ h3 h1 h2 h4 hpos hx' hy' hnb Own.nil hs' ha rfl S.ctx.oq.1) vL ?_
 rintro u w' ⟨A',c',rfl,ho',C,Tr⟩
 refine tC S how ⟨A',c',rfl,ho',C,⟨Tr.size,fun b hb _=>Tr.block b hb (by simp[ob]),fun b hb=>(by simp at hb),fun b hb hM=>?_⟩⟩
 exact Mu.weaken (fun b hb=>by simpa using hb) b (Tr.mono b hb hM)
end
theorem M.yes{d:Option Nat}{op:Op}{t:TypeId}{ps:String}{af:Array Edge}{j:Nat}{b x:Bool}{s:Nat}(hj:(ops[j]?).bind (·.dst)=some s)(hs:yw s env=some (vb x))(hx:x=b)
 (h:M P ops (⟨d,op,t,ps,af,none⟩::rest) Kn N n0 fx env its):M P ops (⟨d,op,t,ps,af,some (j,b)⟩::rest) Kn N n0 fx env its:=fun κ w S=>WL.yes hj (by have:=gP (κ:=κ) hs; simpa [SV.den,Cell.den]using this) hx (h κ w S)
theorem M.no{d:Nat}{op:Op}{t:TypeId}{ps:String}{af:Array Edge}{j:Nat}{b x:Bool}{s:Nat}(hj:(ops[j]?).bind (·.dst)=some s)(hs:yw s env=some (vb x))(hx:x = !b)(hd:Nat.blt d N=true)
 (h:M P ops rest Kn N n0 fx ((d,.u [])::env) its):M P ops (⟨some d,op,t,ps,af,some (j,b)⟩::rest) Kn N n0 fx env its:=fun κ w S=>WL.no hj (by have:=gP (κ:=κ) hs; simpa [SV.den,Cell.den]using this) hx hd (h κ w (S.env (qX S.l9 rfl)))
theorem M.oJ{d:Nat}{op:Op}{t:TypeId}{ps:String}{af:Array Edge}{j:Nat}{b:Bool}{s:Nat}(hj:(ops[j]?).bind (·.dst)=some s)(hs:yw s env=some (.u []))(hd:Nat.blt d N=true)
 (h:M P ops rest Kn N n0 fx ((d,.u [])::env) its):M P ops (⟨some d,op,t,ps,af,some (j,b)⟩::rest) Kn N n0 fx env its:=fun κ w S=>WL.oJ hj (gP (κ:=κ) hs) hd (h κ w (S.env (qX S.l9 rfl)))
theorem M.dw{d:Nat}{c x y:Operand}{t:TypeId}{ps:String}{af:Array Edge}{b:Bool}{v:SV}(hc:iM env c=some (vb b))(hb:b=true)(hx:iM env x=some v)(hd:(Nat.blt d N)=true)
 (h:M P ops rest Kn N n0 fx ((d,v)::env) its):M P ops (⟨some d,.pick c x y,t,ps,af,none⟩::rest) Kn N n0 fx env its:=fun κ w S=>WL.val (sP (eD hc) hb (eD hx)) hd (h κ w (S.env (qX S.l9 (Lm S.l9 hx))))
theorem M.cZ{d:Nat}{c x y:Operand}{t:TypeId}{ps:String}{af:Array Edge}{b:Bool}{v:SV}(hc:iM env c=some (vb b))(hb:b=false)(hy:iM env y=some v)(hd:(Nat.blt d N)=true)
 (h:M P ops rest Kn N n0 fx ((d,v)::env) its):M P ops (⟨some d,.pick c x y,t,ps,af,none⟩::rest) Kn N n0 fx env its:=fun κ w S=>WL.val (sQ (eD hc) hb (eD hy)) hd (h κ w (S.env (qX S.l9 (Lm S.l9 hy))))
theorem A.at{a:Act}{js:List Jx}(h:A N n0 fx env its a w)(e:(Ak js env',jg js aW,yS n0 its.length js env' aW (o9 env env') (srcs its js aW))=(o9 env env',srcs its js aW,true)):A N n0 fx env' aW a w:=by
 injection e with h1 e
 injection e with h2 h3
 exact h.to js (by rw[h1,h2]) h3
theorem Z.mid{c:Code}(J:Act→World→Prop)(h:Z P c J Ke Kr N n0 fx env its)(h2:∀a w,J a w→Kn a w):Z P c Kn Ke Kr N n0 fx env its:=fun κ w S a ha=>
 wp_mono (h κ w S a ha) fun e a w hq=>by
  cases e
  case normal=>exact h2 a w hq
  all_goals exact hq
theorem A.re{a:Act}{fn:Func}{rs:SV}{js:List Jx}(bW:dQ P tt)(h:A N n0 fx env its a w)(e:((ni js rs,(ni js rs).isSome),jg js aW,yS n0 its.length js [(0,rs)] aW (some []) (srcs its js aW))=(((uV tt env its fn.results.toList).bind EX,true),srcs its js aW,true)):F3 P fn n0 fx rs aW a w:=by
 injection e with h1 e
 injection e with h2 h3
 exact A.ret bW h js (by rw[h1,h2]) h3
theorem Z.re{fn:Func}{rs:SV}{js:List Jx}(bW:dQ P tt)(e:((ni js rs,(ni js rs).isSome),jg js aW,yS n0 its.length js [(0,rs)] aW (some []) (srcs its js aW))=(((uV tt env its fn.results.toList).bind EX,true),srcs its js aW,true)):Z P .ret Kn Ke (F3 P fn n0 fx rs aW) N n0 fx env its:=fun κ w S=>
 WC.ret fun a ha=>A.re bW ⟨κ,ha,S⟩ e
theorem Z.loop{c:Code}(G:Nat→Act→World→Prop)(n1:Nat)(h0:∀a w,A N n0 fx env its a w→G n1 a w)(round:∀n a w,G n a w→BK P fx.px c (fun a w=>∃m,m<n∧G m a w) Ke Kr a w):Z P (.loop c) Kn Ke Kr N n0 fx env its:=fun κ w S=>
 WC.loop G n1 (fun a ha=>h0 a w ⟨κ,ha,S⟩) round
theorem aQ{f:FuncId}{o:Oper}{Md:List SV}{fZ iU:List Item}{VP:SV}(hc:∀args w,(callFunc f args).run P w = .ok (.enter f args) w)(spec:Spec P f Md fZ VP iU)(js:List Jx)(as:List SV)(v:SV)
 (e:(((OX env o.op,jg js fZ),Ru its.length fZ.length js VP),wK js Md,cB its js Md fZ,cB2 (zX js fZ iU its) v)=(((some (f,as),srcs its js fZ),some v),some as,true,true)) (hF:I5 js=false∨D7 fZ.length iU) :
 Eff P N n0 fx env its o (some v) ((zX js fZ iU its).getD []):=by
 injection e with h1 e
 injection e with h2 e
 injection e with h3 h4
 exact Ud hc spec js v (by rw[h1,h2]; rfl) h2 h3 h4 hF
end
end V
end Go.Proofs.YtbgfhaahhdnogaaGreat
