/- Operations with an effect: new variables, rows, slices. -/
import Derived.Test.YtbgfhaahhdnogaaGreatReg
namespace Go.Proofs.YtbgfhaahhdnogaaGreat
namespace V
def Does(P:Program)(e:Operand->Value)(o:Oper)(w:World)(K:Option Value->World->Prop):Prop:=
 (∃v w',(execOp e o).run P w=.ok (.value v) w'/\K (some v) w')∨(∃w',(execOp e o).run P w=.ok .skip w'/\K none w')∨
 ∃f args,(execOp e o).run P w=.ok (.enter f args) w/\Calls P f args w fun e w'=>∃v,e=.returned v/\K (some v) w'
def Eff(P:Program)(N n0:Nat)(fx:Fx)(env:bN)(its:List Item)(o:Oper)(v:Option SV)(aP:List Item):Prop:=
 ∀κ w,St n0 fx env its κ w->∀a,Holds N (eX κ env) a->Does P a.eval o w fun ov w'=>∃κx,(∀x,v=some x->ov=some (x.den (κ++κx)))/\St n0 fx env aP (κ++κx) w'
section
variable {P:Program} {N n0:Nat} {fx:Fx} {its aP:List Item} {κ:List Conc} {w:World} {tt:TT} {ops:Array Oper} {rest:List Oper} {Kn:Act->World->Prop} {env:bN}
theorem WL.does{l:Env}{d:Option Nat}{op:Op}{t:TypeId}{ps:String}{af:Array Edge}(h:∀a,Holds N l a->Does P a.eval ⟨d,op,t,ps,af,none⟩ w fun ov w'=>∀a',(match d,ov with
 | some d,some v=>a'=a.put (some d) v
 | none,_=>a'=a
 | some _,none=>False)->wpList P ops (QN fx.px Kn) rest a' w') (hne:∀d',d=some d'->∀a,Holds N l a->Does P a.eval ⟨d,op,t,ps,af,none⟩ w fun ov _=>ov≠none):WL P fx.px ops (⟨d,op,t,ps,af,none⟩::rest) Kn N l w:=fun a ha=>
 wpList_plain rfl fun K hK=>by
  unfold Oper.wp;rcases h a ha with⟨v,w',h1,h2⟩ | ⟨w',h1,h2⟩ | ⟨f,args,h1,h2⟩
  ·rw[h1];refine hK _ _ (h2 _ ?_);cases d <;> rfl
  ·rw[h1];cases d with
   | none=>exact hK _ _ (h2 _ rfl)
   | some d=>
     exfalso;rcases hne d rfl a ha with⟨v,w',h3,h4⟩ | ⟨w',h3,h4⟩ | ⟨f,args,h3,h4⟩
     ·rw[h1]at h3;cases h3
     ·exact h4 rfl
     ·rw[h1]at h3;cases h3
  ·rw[h1];refine Calls.mono h2 fun e w' hq=>?_;obtain⟨v,rfl,hv⟩:=hq;refine hK _ _ (hv _ ?_);cases d <;> rfl
theorem M.qM{d:Nat}{op:Op}{t:TypeId}{ps:String}{af:Array Edge}{v:SV}(h:Eff P N n0 fx env its ⟨some d,op,t,ps,af,none⟩ (some v) aP)(hd:Nat.blt d N=true)(hv:v.lt aP.length=true)(hk:M P ops rest Kn N n0 fx ((d,v)::env) aP) :
 M P ops (⟨some d,op,t,ps,af,none⟩::rest) Kn N n0 fx env its:=fun κ w S=>by
 refine WL.does (fun a ha=>?_) (fun d' _ a ha=>?_)
 ·have key:∀ov w',(∃κx,(∀x,some v=some x->ov=some (x.den (κ++κx)))/\St n0 fx env aP (κ++κx) w')->∀a',(match some d,ov with
   | some d,some v=>a'=a.put (some d) v
   | none,_=>a'=a
   | some _,none=>False)->wpList P ops (QN fx.px Kn) rest a' w':=by
   rintro ov w' ⟨κx,h1,S'⟩ a' ha';have:=h1 v rfl;subst this;simp only at ha';subst ha';have hk':=hk (κ++κx) w' (S'.env (by
    have:=S'.qZ;unfold xB at this ⊢;simp[hv,this]))
   refine hk' _ ?_;have h2:eX (κ++κx) ((d,v)::env)=(d,v.den (κ++κx))::eX κ env:=by
    show(d,v.den (κ++κx))::eX (κ++κx) env=_;rw[jM (by rw[S.len];exact S.qZ)]
   rw[h2];exact ha.put hd
  rcases h κ w S a ha with⟨v,w',h1,h2⟩ | ⟨w',h1,h2⟩ | ⟨f,args,h1,h2⟩
  ·exact .inl ⟨v,w',h1,key _ _ h2⟩
  ·exact .inr (.inl ⟨w',h1,key _ _ h2⟩)
  ·exact .inr (.inr ⟨f,args,h1,Calls.mono h2 fun e w' ⟨v,hv,hq⟩=>⟨v,hv,key _ _ hq⟩⟩)
 ·rcases h κ w S a ha with⟨v,w',h1,h2⟩ | ⟨w',h1,h2⟩ | ⟨f,args,h1,h2⟩
  ·exact .inl ⟨v,w',h1,by simp⟩
  ·obtain⟨κx,h3,_⟩:=h2;exact absurd (h3 v rfl) (by simp)
  ·exact .inr (.inr ⟨f,args,h1,Calls.mono h2 fun e w' ⟨v,hv,hq⟩=>⟨v,hv,by simp⟩⟩)
theorem M.wB{op:Op}{t:TypeId}{ps:String}{af:Array Edge}{v:Option SV}(h:Eff P N n0 fx env its ⟨none,op,t,ps,af,none⟩ v aP)(hk:M P ops rest Kn N n0 fx env aP) :
 M P ops (⟨none,op,t,ps,af,none⟩::rest) Kn N n0 fx env its:=fun κ w S=>by
 refine WL.does (fun a ha=>?_) (fun d' hd=>by cases hd);have key:∀ov w',(∃κx,(∀x,v=some x->ov=some (x.den (κ++κx)))/\St n0 fx env aP (κ++κx) w')->∀a',(match (none:Option Nat),ov with
  | some d,some v=>a'=a.put (some d) v
  | none,_=>a'=a
  | some _,none=>False)->wpList P ops (QN fx.px Kn) rest a' w':=by
  rintro ov w' ⟨κx,h1,S'⟩ a' ha';have ha'':a'=a:=by cases ov <;> exact ha'
  subst ha'';refine hk (κ++κx) w' S' _ ?_;rw[jM (by rw[S.len];exact S.qZ)];exact ha
 rcases h κ w S a ha with⟨v,w',h1,h2⟩ | ⟨w',h1,h2⟩ | ⟨f,args,h1,h2⟩
 ·exact .inl ⟨v,w',h1,key _ _ h2⟩
 ·exact .inr (.inl ⟨w',h1,key _ _ h2⟩)
 ·exact .inr (.inr ⟨f,args,h1,Calls.mono h2 fun e w' ⟨v,hv,hq⟩=>⟨v,hv,key _ _ hq⟩⟩)
theorem Ctx.of{U0:Nat->Prop}{X0:List (Option Nat)}{w0 w:World}{L L':List (Option Nat)}(C:Ctx U0 X0 w0 L w)(f:Nat->Nat)(hf:∀(i b:Nat),L'[i]? = some (some b)->L[f i]? = some (some b))(hi:∀(i j b:Nat),L'[i]? = some (some b)->L'[j]? = some (some b)->f i=f j->i=j):Ctx U0 X0 w0 L' w:=
 ⟨C.step,C.u0,fun b hb=>by
  obtain⟨i,h⟩:=List.getElem?_of_mem hb;exact C.live b (List.mem_of_getElem? (hf i b h)),fun i j b hij h1 h2=>C.sep (f i) (f j) b (fun e=>hij (hi i j b h1 h2 e)) (hf i b h1) (hf j b h2)⟩
theorem TR.out{U0:Nat->Prop}{w w':World}{L L2 L' X:List (Option Nat)}(T:TR U0 L w L2 w' X)(h:∀b,some b∈L'->some b∈L2):TR U0 L w L' w' X:=⟨T.size,T.block,T.xin,fun b hb hM=>T.mono b hb (Mu.weaken h b hM)⟩
theorem Vq{α:Type}{x:α}{l:List α}{i:Nat}{y:α}(h:(l++[x])[i]? = some y):(x::l)[if i=l.length then 0 else i+1]? = some y:=by
 by_cases e:i=l.length
 ·subst e;rw[List.getElem?_append_right (Nat.le_refl _)]at h;simpa using h
 ·rw[if_neg e];rcases Nat.lt_or_ge i l.length with hlt | hge
  ·rw[List.getElem?_append_left hlt]at h;simpa using h
  ·rw[List.getElem?_append_right hge]at h;have:([x]:List α)[i-l.length]? = none:=by rw[List.getElem?_eq_none];simp;omega
   rw[this]at h;cases h
theorem Ctx.Z5{U0:Nat->Prop}{X0:List (Option Nat)}{w0 w:World}{x:Option Nat}{L:List (Option Nat)}(C:Ctx U0 X0 w0 (x::L) w):Ctx U0 X0 w0 (L++[x]) w:=
 C.of (fun i=>if i=L.length then 0 else i+1) (fun i b h=>Vq h) (fun i j b h1 h2 e=>by
  by_cases h3:i=L.length <;> by_cases h4:j=L.length <;> simp[h3,h4]at e <;> omega)
theorem TR.Z5{U0:Nat->Prop}{w w':World}{x:Option Nat}{L0 L X:List (Option Nat)}(T:TR U0 L0 w (x::L) w' X):TR U0 L0 w (L++[x]) w' X:=T.out fun b h=>by simp at h ⊢;exact h.symm
theorem Kc{it:Item}{c:Conc}(h:κ.length=its.length):dG (its++[it]) (κ++[c])=dG its κ++[iC it c]:=by
 unfold dG;rw[List.zipWith_append (by omega)];rfl
theorem F5{its:List Item}(h:its.any Item.ow=false):∀it∈its,it.ow=false:=fun x hx=>by
 cases hx':x.ow with
 | false=>rfl
 | true=>
   exfalso;have:its.any Item.ow=true:=List.any_eq_true.2 ⟨x,hx,hx'⟩;rw[this]at h;cases h
theorem St.push(S:St n0 fx env its κ w)(how:its.any Item.ow=false){it:Item}{c:Conc}{w':World}(C:Ctx fx.U0 fx.X0 fx.w0 (dG its κ++[iC it c]) w')(T:TR fx.U0 (dG its κ) w (dG its κ++[iC it c]) w' [])(hlt:it.lt (its.length+1)=true)
 (ok:OK (κ++[c]) (Mu fx.U0 (dG its κ++[iC it c])) w' it c):St n0 fx env (its++[it]) (κ++[c]) w':=by
 have hL:=Kc (it:=it) (c:=c) S.len;refine S.next (fun _=>False) (by simp[S.len]) (by rw[List.length_append];exact rH (by simp) S.qZ) ?_ (by rw[hL];exact C) (by rw[hL];exact T) ?_ ?_
 ·have h1:=vk (m:=its.length+1) (by omega) S.DW;unfold oq at h1 ⊢;simp[h1,hlt]
 ·intro i it' hi _ h;rw[List.getElem?_append_left hi]at h;exact⟨h,F5 how _ (List.mem_of_getElem? h),fun _ _ _ _=>by simp⟩
 ·intro i it' c' hi h1 h2;have hi:its.length<=i:=hi.elim id False.elim;have e:i=its.length:=by
   have:=(List.getElem?_eq_some_iff.1 h1).1;simp at this;omega
  subst e;rw[List.getElem?_append_right (Nat.le_refl _)]at h1;rw[List.getElem?_append_right (by rw[S.len];exact Nat.le_refl _),S.len]at h2;simp at h1 h2;subst h1;subst h2;rw[hL];exact ok
theorem Does.p8{l:Env}{o:Oper}{a:Act}{K:Value->World->Prop}{K':Option Value->World->Prop}(h:J9 P N l o w K)(ha:Holds N l a)(hk:∀v w',K v w'->K' (some v) w'):Does P a.eval o w K':=by
 obtain⟨v,w',h1,h2⟩:=h a ha;exact .inl ⟨v,w',h1,hk v w' h2⟩
theorem EG(S:St n0 fx env its κ w)(how:its.any Item.ow=false){E:TypeId}{cs:List Cell}(hl:cs.all (Cell.lt its.length)=true){v:Value}{w':World}(h:Hl fx.U0 fx.X0 fx.w0 (dG its κ) w E (cs.map (Cell.den κ)) v w') :
 ∃κx,(∀x,some (vp its.length 0)=some x->some v=some (x.den (κ++κx)))/\St n0 fx env (its++[.k E cs]) (κ++κx) w':=by
 obtain⟨b,rfl,hb,C,Tr⟩:=h;refine⟨[.b b],fun x hx=>?_,S.push how (it:=.k E cs) (c:=.b b) C.Z5 Tr.Z5 (fJ (by omega) hl) ?_⟩
 ·injection hx with hx;subst hx;simp only[SV.den,Cell.den];rw[List.getElem?_append_right (by rw[S.len];exact Nat.le_refl _),S.len];simp
 ·simp only[OK];rw[gu (by rw[S.len];exact hl)];exact hb
def boxC(env:bN)(its:List Item):Op->Option (TypeId×List Cell)
 | .box E x=>match jD env x with
   | some v=>(match v.cells its with
     | some cs=>(match cs.all (Cell.lt its.length) && !its.any Item.ow with
       | true=>some (E,cs)
       | false=>none)
     | none=>none)
   | none=>none
 | _=>none
theorem bW{d:Option Nat}{t:TypeId}{ps:String}{af:Array Edge}{g:Option (Nat×Bool)}{op:Op}{E:TypeId}(cs:List Cell)(h:boxC env its op=some (E,cs)):Eff P N n0 fx env its ⟨d,op,t,ps,af,g⟩ (some (vp its.length 0)) (its++[.k E cs]):=fun κ w S a ha=>by
 unfold boxC at h;split at h
 ·split at h
  ·rename_i v hx;split at h
   ·rename_i cs' hc;split at h
    ·rename_i hb;simp only[Option.some.injEq,Prod.mk.injEq]at h;obtain⟨rfl,rfl⟩:=h;simp only[Bool.and_eq_true,Bool.not_eq_true']at hb;exact Does.p8 (ZE (eD hx) (lq S.MQ hc) S.ctx) ha fun v w' hk=>EG S hb.2 hb.1 hk
    ·cases h
   ·cases h
  ·cases h
 ·cases h
def TM(tt:TT)(its:List Item):Op->Option (TypeId×List Cell)
 | .alloc E=>match jK E tt with
   | some ⟨_,_,_,some z,_⟩=>(match its.any Item.ow with
     | false=>some (E,z.cells.toList.map .v)
     | true=>none)
   | _=>none
 | _=>none
theorem eA{d:Option Nat}{t:TypeId}{ps:String}{af:Array Edge}{g:Option (Nat×Bool)}{op:Op}{E:TypeId}(cK:dX P tt)(cs:List Cell)(h:TM tt its op=some (E,cs)):Eff P N n0 fx env its ⟨d,op,t,ps,af,g⟩ (some (vp its.length 0)) (its++[.k E cs]):=fun κ w S a ha=>by
 unfold TM at h;split at h
 ·split at h
  ·rename_i E' u ag n z bt ht;split at h
   ·rename_i hb;simp only[Option.some.injEq,Prod.mk.injEq]at h;obtain⟨rfl,rfl⟩:=h;have hz:z.cells=(((z.cells.toList.map Cell.v).map (Cell.den κ))).toArray:=by
     rw[List.map_map,show(Cell.den κ ∘ Cell.v)=id from rfl,List.map_id]
    exact Does.p8 (QI ((cK.get ht).zero z rfl) hz S.ctx) ha fun v w' hk=>EG S hb (by simp[Cell.lt]) hk
   ·cases h
  ·cases h
 ·cases h
section
variable {α:Type} {sz:Nat} {E:TypeId} {R:RT α} [dH R]
theorem EF(S:St n0 fx env its κ w)(how:its.any Item.ow=false){l:List α}{v:Value}{w':World}(h:uO sz E R fx.U0 fx.X0 fx.w0 (dG its κ) w [] (fun y=>y::dG its κ) l v w') :
 ∃κx,(∀x,some (vs its.length)=some x->some v=some (x.den (κ++κx)))/\St n0 fx env (its++[.o sz E R l]) (κ++κx) w':=by
 obtain⟨A,c,rfl,ho,C,Tr⟩:=h;refine⟨[.r A l.length c],fun x hx=>?_,S.push how (it:=.o sz E R l) (c:=.r A l.length c) C.Z5 Tr.Z5 rfl ⟨rfl,?_⟩⟩
 ·injection hx with hx;subst hx;simp only[SV.den,Cell.den];rw[List.getElem?_append_right (by rw[S.len];exact Nat.le_refl _),S.len];simp
 ·exact ho.mu (Mu.weaken fun b h=>by simp at h ⊢;exact h.symm)
inductive Sx{α:Type}(its:List Item)(sz:Nat)(R:RT α) [dH R](l:List α):SV->Prop
 | o {j:Nat} (E:TypeId) (h:its[j]? = some (.o sz E R l)):Sx its sz R l (vs j)
 | r {j:Nat} (h:its[j]? = some (.d sz R l)):Sx its sz R l (vs j)
 | n (h:l=[]):Sx its sz R l vn
theorem Sx.src{l:List α}{v:SV}(S:St n0 fx env its κ w)(h:Sx its sz R l v):∃A n c,v.den κ=.slice A n c/\n=l.length/\Src sz R (Mu fx.U0 (dG its κ)) w A l:=by
 cases h with
 | @o j E h=>
   obtain⟨c,h1,h2⟩:=S.gP h;cases c with
   | r A n c=>exact⟨A,n,c,by simp[SV.den,Cell.den,h1],h2.1,h2.2.src⟩
   | _=>exact h2.elim
 | @r j h=>
   obtain⟨c,h1,h2⟩:=S.gP h;cases c with
   | r A n c=>exact⟨A,n,c,by simp[SV.den,Cell.den,h1],h2.1,h2.2.src⟩
   | _=>exact h2.elim
 | n h=>
   subst h;exact⟨none,0,0,rfl,rfl,(Sl.OI:Sl sz R _ _ none 0 []).src⟩
def Dt(tt:TT)(ty E:TypeId)(sz dA:Nat):Bool:=match jK ty tt,jK E tt with
 | some ⟨.slice E',_,_,_,_⟩,some ti=>Nat.beq E E'&&(Nat.beq ti.size sz&&(Nat.beq ti.bytes dA&&Nat.blt 0 sz))
 | _,_=>false
theorem lI(cK:dX P tt){ty:TypeId}{dA:Nat}(h:Dt tt ty E sz dA=true):P.underlying ty=some (.slice E)/\(∃i z,P.info? E=some i/\i.size=sz/\i.bytes=dA/\i.zero=some z/\z.cells.size=sz)/\Nat.blt 0 sz=true/\(∀w,(sizeOf E).run P w=.ok sz w):=by
 unfold Dt at h;split at h
 ·rename_i E' _ _ _ _ ti h1 h2;simp only[Bool.and_eq_true,Nat.beq_eq]at h;obtain⟨rfl,rfl,rfl,h3⟩:=h;exact⟨(cK.get h1).und,(cK.get h2).info,h3,(cK.get h2).size⟩
 ·cases h
theorem GR(S:St n0 fx env its κ w)(how:its.any Item.ow=false){i n c:Nat}{A:Option Addr}{l l':List α}{K8:Item}(hl0:∀m,K8.lt m=true)(hn0:iC K8 (.r A n c)=none)(hk0:∀κ U w,OK κ U w K8 (.r A n c))(hi:its[i]? = some (.o sz E R l))(hc:κ[i]? = some (.r A n c)){u:Value}{w':World}(h:uO sz E R fx.U0 fx.X0 fx.w0 (dG its κ) w [ob A] ((dG its κ).set i) l' u w') :
 ∃κx,(∀x,some (vs its.length)=some x->some u=some (x.den (κ++κx)))/\St n0 fx env (its.set i K8++[.o sz E R l']) (κ++κx) w':=by
 have hil:i<its.length:=(List.getElem?_eq_some_iff.1 hi).1;have hL:(dG its κ)[i]? = some (ob A):=bV hi hc;obtain⟨A',c',rfl,ho',C,Tr⟩:=h;have hlen:(dG its κ).length=its.length:=by simp[dG,S.len]
 have hL':dG (its.set i K8++[.o sz E R l']) (κ++[.r A' l'.length c'])=(dG its κ).set i none++[ob A']:=by
  rw[Kc (by simp[S.len])];congr 1;apply List.ext_getElem?;intro j;by_cases hj:j=i
  ·subst hj;rw[List.getElem?_set_self (by rw[hlen];exact hil)];rw[bV (by rw[List.getElem?_set_self hil]) hc,hn0]
  ·rw[List.getElem?_set_ne (fun e=>hj e.symm)];unfold dG;rw[List.getElem?_zipWith,List.getElem?_zipWith,List.getElem?_set_ne (fun e=>hj e.symm)]
 have hin:∀b,some b∈(dG its κ).set i none++[ob A']->some b∈(dG its κ).set i (ob A'):=by
  intro b hb;rcases List.mem_append.1 hb with h | h
  ·obtain⟨j,hj⟩:=List.getElem?_of_mem h;by_cases e:j=i
   ·subst e;rw[List.getElem?_set_self (by rw[hlen];exact hil)]at hj;cases hj
   ·rw[List.getElem?_set_ne (fun h=>e h.symm)]at hj;exact List.mem_of_getElem? (i:=j) (by rw[List.getElem?_set_ne (fun h=>e h.symm)];exact hj)
  ·rw[List.mem_singleton]at h;exact List.mem_of_getElem? (i:=i) (by rw[List.getElem?_set_self (by rw[hlen];exact hil),h])
 refine⟨[.r A' l'.length c'],fun x hx=>?_,?_⟩
 ·injection hx with hx;subst hx;simp only[SV.den,Cell.den];rw[List.getElem?_append_right (by rw[S.len];exact Nat.le_refl _),S.len];simp
 ·refine S.next (fun j=>j=i) (by simp[S.len]) (by rw[List.length_append,List.length_set];exact rH (by simp) S.qZ) ?_ ?_ (X:=[ob A]) (by rw[hL'];exact Tr.out hin) ?_ ?_
  ·unfold oq;rw[List.all_eq_true];intro it hit;have h1:=vk (m:=its.length+1) (by omega) S.DW;unfold oq at h1;rw[List.all_eq_true]at h1;rw[List.length_append,List.length_set];rcases List.mem_append.1 hit with h | h
   ·rcases List.mem_or_eq_of_mem_set h with h | h
    ·exact h1 _ h
    ·subst h;exact hl0 _
   ·rw[List.mem_singleton]at h;subst h;rfl
  ·rw[hL'];refine C.of (fun j=>if j=its.length then i else j) (fun j b h=>?_) (fun j k b h1 h2 e=>?_)
   ·by_cases e:j=its.length
    ·subst e;rw[List.getElem?_append_right (by simp[hlen])]at h;simp[hlen]at h;simp only[if_true];rw[List.getElem?_set_self (by rw[hlen];exact hil),h]
    ·rw[if_neg e];rcases Nat.lt_or_ge j its.length with hlt | hge
     ·rw[List.getElem?_append_left (by simp[hlen,hlt])]at h;by_cases ej:j=i
      ·subst ej;rw[List.getElem?_set_self (by rw[hlen];exact hil)]at h;cases h
      ·rw[List.getElem?_set_ne (fun h=>ej h.symm)]at h ⊢;exact h
     ·have:=(List.getElem?_eq_some_iff.1 h).1;simp[hlen]at this;omega
   ·have hne:∀j,((dG its κ).set i none++[ob A'])[j]? = some (some b)->j≠i:=by
     intro j h e;subst e;rw[List.getElem?_append_left (by simp[hlen,hil]),List.getElem?_set_self (by rw[hlen];exact hil)]at h;cases h
    have h3:=hne j h1;have h4:=hne k h2;by_cases e1:j=its.length <;> by_cases e2:k=its.length <;> simp[e1,e2]at e ⊢ <;> omega
  ·intro j it hj hne hit;rw[List.getElem?_append_left (by simpa using hj),List.getElem?_set_ne (fun h=>hne h.symm)]at hit;refine⟨hit,F5 how _ (List.mem_of_getElem? hit),fun c0 b hc0 hb hm=>?_⟩;rw[List.mem_singleton]at hm;have h1:=bV hit hc0;rw[hb,hm]at h1;rw[← hm]at hL;rw[← hm]at h1;exact S.ctx.sep j i b hne h1 hL
  ·intro j it c0 hj hit hc0;rcases hj with hj | rfl
   ·have e:j=its.length:=by
     have:=(List.getElem?_eq_some_iff.1 hit).1;simp at this;omega
    subst e;rw[List.getElem?_append_right (by simp)]at hit;rw[List.getElem?_append_right (by rw[S.len];exact Nat.le_refl _),S.len]at hc0;simp at hit hc0;subst hit;subst hc0;rw[hL'];exact⟨rfl,ho'.mu (Mu.weaken hin)⟩
   ·rw[List.getElem?_append_left (by simpa using hil),List.getElem?_set_self hil]at hit;injection hit with hit;rw[List.getElem?_append_left (List.getElem?_eq_some_iff.1 hc).1,hc]at hc0;injection hc0 with hc0;subst hc0;subst hit;exact hk0 _ _ _
theorem yV(S:St n0 fx env its κ w)(how:its.any Item.ow=false){i n c:Nat}{A:Option Addr}{l l':List α}(hi:its[i]? = some (.o sz E R l))(hc:κ[i]? = some (.r A n c)){u:Value}{w':World}(h:uO sz E R fx.U0 fx.X0 fx.w0 (dG its κ) w [ob A] ((dG its κ).set i) l' u w') :
 ∃κx,(∀x,some (vs its.length)=some x->some u=some (x.den (κ++κx)))/\St n0 fx env (its.set i .e++[.o sz E R l']) (κ++κx) w':=
 GR (K8:=.e) S how (fun _=>rfl) rfl (fun _ _ _=>trivial) hi hc h
def RU:RT Unit:=fun _ _ cs _=>cs=[]
instance:dH RU:=⟨fun h _ _=>h,fun h u hu=>by unfold RU at h;subst h;simp at hu⟩
theorem gH(cK:dX P tt){d:Option Nat}{t:TypeId}{ps:String}{af:Array Edge}{g:Option (Nat×Bool)}{ty:TypeId}{x y:Operand}{dA i:Nat}{l m l':List α}{v:SV}(hx:jD env x=some (vs i))(hi:its[i]? = some (.o sz E R l))(hy:jD env y=some v)(hm:Sx its sz R m v)
 (ha:app dA l m=some l') (hT:(Dt tt ty E sz dA && !its.any Item.ow)=true) :
 Eff P N n0 fx env its ⟨d,.call { callee:=.builtin .append,args:=#[x,y],argTypes:=#[ty,ty] },t,ps,af,g⟩ (some (vs its.length)) (its.set i .e++[.o sz E R l']):=fun κ w S a yQ=>by
 simp only[Bool.and_eq_true,Bool.not_eq_true']at hT;obtain⟨hT,how⟩:=hT;obtain⟨hu,⟨info,z,Dl,h1,h2,h3,h4⟩,hpos,_⟩:=lI cK hT;obtain⟨c,hc,hok⟩:=S.gP hi;obtain⟨B,nb,cb,hv,hnb,hs⟩:=hm.src S;cases c with
 | r A n c=>
   obtain⟨hn,ho⟩:=hok;subst hn;have hx':=eD (κ:=κ) hx;have hy':=eD (κ:=κ) hy;simp only[SV.den,Cell.den,hc]at hx';rw[hv]at hy';have hL:(dG its κ)[i]? = some (ob A):=bV hi hc;refine Does.p8 (NY hu Dl h3 h1 h2 h4 hpos hx' hy' hnb ho hs ha hL S.ctx) yQ ?_;exact fun u w' h=>yV S how hi hc h
 | _=>exact hok.elim
theorem Ll(cK:dX P tt){d:Option Nat}{t:TypeId}{ps:String}{af:Array Edge}{g:Option (Nat×Bool)}{ty:TypeId}{x y:Operand}{dA:Nat}{k k':IntKind}{n:Int}{z:Value}{e:α}{l:List α}(hx:jD env x=some (vi k n))(hy:jD env y=some (vi k' n))(hz:(jK E tt).bind (·.zero)=some z)(hr:∀U w,R U w z.cells.toList e)
 (hm:mk dA e n=some l) (hT:(Dt tt ty E sz dA && !its.any Item.ow)=true) :
 Eff P N n0 fx env its ⟨d,.makeSlice ty x y,t,ps,af,g⟩ (some (vs its.length)) (its++[.o sz E R l]):=fun κ w S a yQ=>by
 simp only[Bool.and_eq_true,Bool.not_eq_true']at hT;obtain⟨hT,how⟩:=hT;obtain⟨hu,⟨info,z',Dl,h1,h2,h3,h4⟩,hpos,_⟩:=lI cK hT;have hzz:z'=z:=by
  cases ht:jK E tt with
  | none=>simp[ht]at hz
  | some ti=>
    simp[ht]at hz;have:=(cK.get ht).zero z hz;have h5:∀w,(zeroValue E).run P w=.ok z' w:=fun w=>by
     simp[zeroValue,typeInfo,Dl,h3]
    have h6:=(this w).symm.trans (h5 w);injection h6 with h6;exact h6.symm
 subst hzz;exact Does.p8 (Vg hu Dl h3 h1 h2 (by simp) (by simpa using h4) (eD hx) (eD hy) hr hm S.ctx) yQ fun v w' hk=>EF S how hk
end
end
end V
namespace V
section
variable {P:Program} {N n0:Nat} {fx:Fx} {its aP:List Item} {κ:List Conc} {w:World} {tt:TT} {ops:Array Oper} {rest:List Oper} {Kn:Act->World->Prop} {env:bN}
theorem OK.ext{κx:List Conc}{it:Item}{c:Conc}{U U':Nat->Prop}(hsc:it.lt κ.length=true)(hU:∀b,U' b->U b)(h:OK κ U w it c):OK (κ++κx) U' w it c:=by
 cases it with
 | k Ty cs=>cases c with
   | b n=>
     simp only[OK]at h ⊢;rw[gu hsc];exact h
   | _=>exact h.elim
 | elt src ow cs=>cases c with
   | a ad=>
     cases src with
     | none=>
       simp only[OK]at h ⊢;rw[gu (by simpa [Item.lt]using hsc)];exact⟨h.1.mu hU,h.2⟩
     | some q=>
       obtain⟨i,iv⟩:=q;simp only[Item.lt,Bool.and_eq_true,Nat.blt_eq]at hsc;simp only[OK]at h ⊢;rw[gu hsc.2];obtain⟨h1,h2,A,n,c,h3,h4⟩:=h;exact⟨h1.mu (fun b hb=>⟨hb.1,hU b hb.2⟩),h2,A,n,c,by rw[List.getElem?_append_left hsc.1];exact h3,h4⟩
   | _=>cases src <;> exact h.elim
 | o sz E R l=>cases c with
   | r A n c=>
     simp only[OK]at h ⊢;exact⟨h.1,h.2.mu hU⟩
   | _=>exact h.elim
 | d sz R l=>cases c with
   | r A n c=>
     simp only[OK]at h ⊢;exact⟨h.1,h.2.mu hU⟩
   | _=>exact h.elim
 | mp k R ow l=>cases c with
   | m b=>
     cases ow with
     | true=>
       simp only[OK]at h ⊢;obtain⟨n,rfl,hm⟩:=h;exact⟨n,rfl,hm.step rfl (fun _ _ _=>rfl) (fun b _=>hU b)⟩
     | false=>
       simp only[OK]at h ⊢;rcases h with h | ⟨n,rfl,hn,hm⟩
       ·exact .inl h
       ·exact .inr ⟨n,rfl,fun q=>hn (hU n q),hm.step rfl (fun _ _ _=>rfl) (fun b _=>hU b)⟩
   | _=>cases ow <;> exact h.elim
 | lm k l=>cases c with
   | m b=>
     simp only[OK]at h ⊢;obtain⟨n,rfl,hm⟩:=h;have e:(l.map fun p=>(p.1,p.2.den (κ++κx)))=l.map fun p=>(p.1,p.2.den κ):=List.map_congr_left fun p hp=>by
      simp only[Item.lt,List.all_eq_true]at hsc;rw[sW (hsc p hp)]
     rw[e];exact⟨n,rfl,hm.step rfl (fun _ _ _=>rfl) (fun b _=>hU b)⟩
   | _=>exact h.elim
 | str s=>cases c with
   | s x=>exact h
   | _=>exact h.elim
 | EZ=>cases c with
   | b n=>exact h
   | _=>exact h.elim
 | e=>trivial
theorem Rq{l:List (Option Nat)}(h:∀x∈l,x=none){i b:Nat}:l[i]?≠some (some b):=fun e=>by
 have:=h _ (List.mem_of_getElem? e);cases this
theorem St.more(S:St n0 fx env its κ w){nJ:List Item}{κ2:List Conc}(hl:κ2.length=nJ.length)(hn:∀(i:Nat) it c,nJ[i]? = some it->κ2[i]? = some c->iC it c=none)(hs:nJ.all (Item.lt (its.length+nJ.length))=true)
 (hok:∀(i:Nat) it c,nJ[i]? = some it->κ2[i]? = some c->OK (κ++κ2) (Mu fx.U0 (dG its κ)) w it c):St n0 fx env (its++nJ) (κ++κ2) w:=by
 have hL:dG (its++nJ) (κ++κ2)=dG its κ++dG nJ κ2:=by
  unfold dG;rw[List.zipWith_append (by rw[S.len])]
 have hnone:∀x∈dG nJ κ2,x=none:=by
  intro x hx;obtain⟨i,hi⟩:=List.getElem?_of_mem hx;cases x with
  | none=>rfl
  | some b=>
    obtain⟨it,c,h1,h2,h3⟩:=tC hi;rw[hn i it c h1 h2]at h3;cases h3
 have hmem:∀b,some b∈dG its κ++dG nJ κ2->some b∈dG its κ:=by
  intro b hb;rcases List.mem_append.1 hb with h | h
  ·exact h
  ·exact absurd (hnone _ h) (by simp)
 have hget:∀(i b:Nat),(dG its κ++dG nJ κ2)[i]? = some (some b)->(dG its κ)[i]? = some (some b):=by
  intro i b h;rcases Nat.lt_or_ge i (dG its κ).length with hlt | hge
  ·rwa [List.getElem?_append_left hlt]at h
  ·rw[List.getElem?_append_right hge]at h;exact absurd h (Rq hnone)
 refine⟨by simp[S.len,hl],?_,by rw[List.length_append];have:=S.n0;omega,by rw[List.length_append];exact rH (by omega) S.qZ,?_,?_,fun i it c h1 h2=>?_⟩
 ·rw[List.take_append_of_le_length S.n0];exact S.pre
 ·have h1:=vk (m:=its.length+nJ.length) (by omega) S.DW;unfold oq at h1 ⊢;rw[List.length_append,List.all_append,h1,hs];rfl
 ·rw[hL];exact S.ctx.of id (fun i b h=>hget i b h) (fun i j b _ _ e=>e)
 ·rw[hL];have hU:∀b,Mu fx.U0 (dG its κ++dG nJ κ2) b->Mu fx.U0 (dG its κ) b:=Mu.weaken hmem;rcases Nat.lt_or_ge i its.length with hlt | hge
  ·rw[List.getElem?_append_left hlt]at h1;rw[List.getElem?_append_left (by rw[S.len];exact hlt)]at h2;have hsc:it.lt κ.length=true:=by
    have h3:=S.DW;unfold oq at h3;rw[List.all_eq_true]at h3;rw[S.len];exact h3 _ (List.mem_of_getElem? h1)
   exact OK.ext hsc hU (S.ok i it c h1 h2)
  ·rw[List.getElem?_append_right hge]at h1;rw[List.getElem?_append_right (by rw[S.len];exact hge),S.len]at h2;have h3:=hok _ it c h1 h2;have hlt2:it.lt (κ++κ2).length=true:=by
    rw[List.all_eq_true]at hs;rw[List.length_append,S.len,hl];exact hs _ (List.mem_of_getElem? h1)
   have h4:=OK.ext (κ:=κ++κ2) (κx:=[]) hlt2 hU h3;rwa [List.append_nil]at h4
def Pre(n0:Nat)(fx:Fx)(env:bN)(its nJ:List Item):Prop:=∀κ w,St n0 fx env its κ w->∃κx,St n0 fx env nJ (κ++κx) w
theorem M.pre(h:Pre n0 fx env its aP)(hk:M P ops rest Kn N n0 fx env aP):M P ops rest Kn N n0 fx env its:=fun κ w S=>by
 obtain⟨κx,S'⟩:=h κ w S;have:=hk _ _ S';rwa [jM (by rw[S.len];exact S.qZ)]at this
theorem Z.pre{Ke:Nat->Act->World->Prop}{Kr:Act->World->Prop}{c:Code}(h:Pre n0 fx env its aP)(hk:Z P c Kn Ke Kr N n0 fx env aP):Z P c Kn Ke Kr N n0 fx env its:=fun κ w S=>by
 obtain⟨κx,S'⟩:=h κ w S;have:=hk _ _ S';rwa [jM (by rw[S.len];exact S.qZ)]at this
class dh {α:Type} (R:RT α) [dH R] where
 cells:α->Nat->List Cell
 its:α->List Item
 op:∀{U:Nat->Prop} {w:World} {cs:List Value} {x:α},R U w cs x->∃κs:List Conc,κs.length=(its x).length/\(∀κ:List Conc,cs=(cells x κ.length).map (Cell.den (κ++κs)))/\
  (∀n,(cells x n).all (Cell.lt (n+(its x).length))=true)/\∀(i:Nat) it c,(its x)[i]? = some it->κs[i]? = some c->iC it c=none/\(∀n,it.lt n=true)/\∀κ,OK κ U w it c
instance(k:IntKind):dh (dB k):=⟨fun x _=>[ci k x],fun _=>[],fun h=>⟨[],rfl,fun _=>h,fun _=>rfl,fun i it c h=>by simp at h⟩⟩
instance:dh Ka:=⟨fun x _=>[cb x],fun _=>[],fun h=>⟨[],rfl,fun _=>h,fun _=>rfl,fun i it c h=>by simp at h⟩⟩
theorem iP{κ κs:List Conc}(i:Nat):(κ++κs)[κ.length+i]? = κs[i]?:=by
 rw[List.getElem?_append_right (by omega)];congr 1;omega
theorem fT{κ κs:List Conc}:(κ++κs)[κ.length]? = κs[0]?:=iP 0
theorem nR{α:Type 1}{β:Type}{P:α->β->Prop}{x:α}{y:β}(h:P x y):∀(i:Nat) a b,[x][i]? = some a->[y][i]? = some b->P a b:=fun i a b h1 h2=>by
 cases i with
 | zero=>simp at h1 h2;subst h1;subst h2;exact h
 | succ i=>simp at h1
instance:dh abI:=⟨fun _ n=>[.t n],fun s=>[.str s],fun {U w cs x} h=>by
 obtain⟨b,rfl,hb⟩:=h;refine⟨[.s b],rfl,fun κ=>?_,fun n=>by simp[Cell.lt],?_⟩
 ·simp[Cell.den,fT]
 ·exact nR (P:=fun(it:Item) (c:Conc)=>iC it c=none/\(∀n,it.lt n=true)/\∀κ,OK κ U w it c) ⟨rfl,fun _=>rfl,fun _=>hb⟩⟩
instance{α:Type}(sz:Nat)(R:RT α) [dH R]:dh (aL sz R):=⟨fun _ n=>[.s n],fun l=>[.d sz R l],fun {U w cs x} h=>by
 obtain⟨A,c,rfl,hb⟩:=h;refine⟨[.r A x.length c],rfl,fun κ=>?_,fun n=>by simp[Cell.lt],?_⟩
 ·simp[Cell.den,fT]
 ·exact nR (P:=fun(it:Item) (c:Conc)=>iC it c=none/\(∀n,it.lt n=true)/\∀κ,OK κ U w it c) ⟨rfl,fun _=>rfl,fun _=>⟨rfl,hb⟩⟩⟩
theorem zT{α:Type}{R:RT α} [dH R] [dh R](S:St n0 fx env its κ w){i:Nat}{iv:Int}{ow:Bool}{x:α}{ad:Addr}{es:List Value}(hU:At (fun b=>ow=false/\Mu fx.U0 (dG its κ) b) w ad es)(hne:es≠[])(hr:R (Mu fx.U0 (dG its κ)) w es x)
 (hi:i<its.length) (ho:∃A n c,κ[i]? = some (.r (some A) n c)/\ad=A.add (iv.toNat*es.length)/\0<=iv/\iv<n):∃κx,St n0 fx env (its++(.elt (some (i,iv)) ow (dh.cells R x (its.length+1))::dh.its R x)) (κ++κx) w:=by
 obtain⟨κs,h1,h2,h3,h4⟩:=dh.op hr;have hcs:es=(dh.cells R x (its.length+1)).map (Cell.den (κ ++ .a ad::κs)):=by
  have:=h2 (κ++[.a ad]);rw[List.length_append,List.length_singleton,S.len,List.append_assoc]at this;exact this
 have hlen:es.length=(dh.cells R x (its.length+1)).length:=by rw[hcs];simp
 refine⟨.a ad::κs,S.more (by simp[h1]) ?_ ?_ ?_⟩
 ·intro j it c hj hc;cases j with
  | zero=>simp at hj hc;subst hj;subst hc;rfl
  | succ j=>simp at hj hc;exact(h4 j it c hj hc).1
 ·rw[List.all_cons,Bool.and_eq_true];constructor
  ·simp only[Item.lt,List.length_cons,Bool.and_eq_true,Nat.blt_eq];refine⟨by omega,fJ ?_ (h3 (its.length+1))⟩;omega
  ·rw[List.all_eq_true];intro it hit;obtain⟨j,hj⟩:=List.getElem?_of_mem hit;have hjl:j<κs.length:=by rw[h1];exact(List.getElem?_eq_some_iff.1 hj).1
   exact(h4 j it _ hj (List.getElem?_eq_getElem hjl)).2.1 _
 ·intro j it c hj hc;cases j with
  | zero=>
    simp at hj hc;subst hj;subst hc;obtain⟨A,n,c,h5,h6,h7⟩:=ho;simp only[OK];rw[← hcs];refine⟨hU,fun e=>hne (by rw[hcs,e];rfl),A,n,c,?_,by rw[← hlen];exact h6,h7⟩;rw[List.getElem?_append_left (by rw[S.len];exact hi)];exact h5
  | succ j=>simp at hj hc;exact(h4 j it c hj hc).2.2 _
section
variable {α:Type} {sz:Nat} {E:TypeId} {R:RT α} [dH R]
theorem pX [dh R]{i:Nat}{iv:Int}{l:List α}{x:α}(hi:its[i]? = some (.d sz R l))(hpos:Nat.blt 0 sz=true)(he:idx l iv=some x):Pre n0 fx env its (its++(.elt (some (i,iv)) false (dh.cells R x (its.length+1))::dh.its R x)):=fun κ w S=>by
 obtain⟨c,hc,hok⟩:=S.gP hi;have hpos':0<sz:=by simpa [Nat.blt_eq]using hpos
 cases c with
 | r A n c=>
   obtain⟨hn,hsl⟩:=hok;obtain⟨h0,h1,hx⟩:=oZ he;obtain⟨_,_,es,hes,hm⟩:=hsl;obtain⟨e1,hl1,hr,hcell⟩:=fC.get l es iv.toNat x hes hx;have hne:e1≠[]:=fun e=>by rw[e]at hl1;simp at hl1;omega
   have hA:∃ad,A=some ad:=by
    match e1,hne with
    | u::e1,_=>
      obtain⟨ad,hA,_⟩:=hm _ u (hcell 0 u rfl);exact⟨ad,hA⟩
   obtain⟨ad,rfl⟩:=hA;have hall:∀j u,e1[j]? = some u->¬ Mu fx.U0 (dG its κ) ad.block/\w.cell? ((ad.add (iv.toNat*sz)).add j)=some u:=fun j u hu=>by
    obtain⟨ad',h1,h2,h3⟩:=hm _ u (hcell j u hu);injection h1 with h1;subst h1;rw[add_add];exact⟨h2,h3⟩
   have hat:At (fun b=>false=false/\Mu fx.U0 (dG its κ) b) w (ad.add (iv.toNat*sz)) e1:=⟨fun h=>by
    rw[block_add]at h
    match e1,hne with
    | u::e1,_=>exact(hall 0 u rfl).1 h.2,fun j u hu=>(hall j u hu).2⟩
   exact zT (ow:=false) S hat hne hr (List.getElem?_eq_some_iff.1 hi).1 ⟨ad,n,c,hc,by rw[hl1],h0,by omega⟩
 | _=>exact hok.elim
theorem fD [dh R]{i:Nat}{iv:Int}{l:List α}{x:α}(hi:its[i]? = some (.o sz E R l))(hpos:Nat.blt 0 sz=true)(he:idx l iv=some x):Pre n0 fx env its (its++(.elt (some (i,iv)) true (dh.cells R x (its.length+1))::dh.its R x)):=fun κ w S=>by
 obtain⟨c,hc,hok⟩:=S.gP hi;have hpos':0<sz:=by simpa [Nat.blt_eq]using hpos
 cases c with
 | r A n c=>
   obtain⟨hn,ho⟩:=hok;obtain⟨h0,h1,hx⟩:=oZ he;rcases gF ho with⟨rfl,rfl,rfl⟩ | ⟨b,pre,cur,post,fz,rfl,_,hg,_,_,hsz,hes⟩
   ·simp at hx
   obtain⟨e1,hl1,hr,hcell⟩:=fC.get l _ iv.toNat x hes hx;have hne:e1≠[]:=fun e=>by rw[e]at hl1;simp at hl1;omega
   have hcl:∀j u,e1[j]? = some u->w.cell? (((⟨b,pre.length,none⟩:Addr).add (iv.toNat*sz)).add j)=some u:=by
    intro j u hu;have:=hcell j u hu;rw[add_add,add_lit];rw[List.getElem?_take]at this;split at this
    ·have hj:=(List.getElem?_eq_some_iff.1 this).1;simp only[World.cell?,hg];rw[← this,← sQ (pre:=pre) (post:=post) hj];simp
    ·cases this
   have hat:At (fun b=>true=false/\Mu fx.U0 (dG its κ) b) w ((⟨b,pre.length,none⟩:Addr).add (iv.toNat*sz)) e1:=⟨fun h=>(by cases h.1),hcl⟩;exact zT (ow:=true) S hat hne hr (List.getElem?_eq_some_iff.1 hi).1 ⟨_,n,c,hc,by rw[hl1],h0,by omega⟩
 | _=>exact hok.elim
def dz(its:List Item)(R:RT α)(cs:List Cell)(x:α):Prop:=∀{n0:Nat} {fx:Fx} {env:bN} {κ:List Conc} {w:World},St n0 fx env its κ w->R (Mu fx.U0 (dG its κ)) w (cs.map (Cell.den κ)) x
theorem dz.sl{j:Nat}{l:List α}(h:its[j]? = some (.d sz R l)):dz its (aL sz R) [.s j] l:=fun S=>by
 obtain⟨c,h1,h2⟩:=S.gP h;cases c with
 | r A n c=>
   obtain⟨rfl,h3⟩:=h2;exact⟨A,c,by simp[Cell.den,h1],h3⟩
 | _=>exact h2.elim
theorem dz.int{k:IntKind}{x:Int}:dz its (dB k) [ci k x] x:=fun _=>rfl
theorem dz.bool{x:Bool}:dz its Ka [cb x] x:=fun _=>rfl
theorem dz.str{c:Cell}{s:List Int}(h:Im its c=some s):dz its abI [c] s:=fun S=>by
 obtain⟨b,h1,h2⟩:=sK S.MQ h;exact⟨b,by simp[h1],h2⟩
def PG(its:List Item)(sz:Nat)(R:RT α):List (List Cell)->List α->Prop
 | [],[]=>True
 | c::cs,x::xs=>dz its R c x/\PG its sz R cs xs
 | _,_=>False
theorem PG.els{β:Type}{z:Nat}{R':RT β}(S:St n0 fx env its κ w):∀(cs:List (List Cell)) (l:List β),PG its z R' cs l->(cs.all fun c=>Nat.beq c.length z)=true->fC z R' (Mu fx.U0 (dG its κ)) w (cs.map (fun c=>c.map (Cell.den κ))).flatten l
 | [],[],_,_=>rfl
 | c::cs,x::xs,h,hl=>by
   simp only[List.all_cons,Bool.and_eq_true,Nat.beq_eq]at hl;exact⟨c.map (Cell.den κ),_,rfl,by simpa using hl.1,h.1 S,PG.els S cs xs h.2 hl.2⟩
 | [],x::xs,h,_=>h.elim
 | c::cs,[],h,_=>h.elim
def BF(env:bN)(its:List Item)(k:Nat):List (Nat×Operand)->Option (List (List Cell))
 | []=>some []
 | (i,x)::r=>match Nat.beq i k,jD env x with
  | true,some v=>(match v.cells its,BF env its (k+1) r with
    | some c,some cs=>some (c::cs)
    | _,_=>none)
  | _,_=>none
theorem EA(S:St n0 fx env its κ w):∀(ps:List (Nat×Operand)) (k:Nat) {cs:List (List Cell)},BF env its k ps=some cs->
 ∃vs:List Value,ps.mapM (fun p=>ev (eX κ env) p.2)=some vs/\ps.map (·.1)=List.range' k ps.length/\vs.length=ps.length/\vs.map (·.cells.toList)=cs.map (fun c=>c.map (Cell.den κ))
 | [],k,cs,h=>by
   simp only[BF,Option.some.injEq]at h;subst h;exact⟨[],rfl,rfl,rfl,rfl⟩
 | (i,x)::r,k,cs,h=>by
  simp only[BF]at h;split at h
  ·rename_i v hb hx;split at h
   ·rename_i c cs' hc hr;injection h with h;subst h;obtain⟨vs,h1,h2,h3,h4⟩:=EA S r (k+1) hr;refine⟨v.den κ::vs,by simp[List.mapM_cons,eD hx,h1],?_,by simp[h3],?_⟩
    ·simp only[List.map_cons,List.length_cons,List.range'_succ,Nat.eq_of_beq_eq_true hb];rw[h2]
    ·simp[h4,lq S.MQ hc]
   ·cases h
  ·cases h
theorem eL(cK:dX P tt){d:Option Nat}{t:TypeId}{ps:String}{af:Array Edge}{g:Option (Nat×Bool)}{ty:TypeId}{dA n:Nat}{parts:Array (Nat×Operand)}{z:Value}(cs:List (List Cell))(l:List α)(hp:BF env its 0 parts.toList=some cs)(hc:PG its sz R cs l)
 (hz:(jK E tt).bind (·.zero)=some z) (hT:(Dt tt ty E sz dA && !its.any Item.ow)=true) (hn:(Nat.beq cs.length n&&(Nat.beq l.length n&&((cs.all fun c=>Nat.beq c.length sz)&&Nat.ble (n*sz) 16777216)))=true) :
 Eff P N n0 fx env its ⟨d,.buildSlice ty n parts,t,ps,af,g⟩ (some (vs its.length)) (its++[.o sz E R l]):=fun κ w S a yQ=>by
 simp only[Bool.and_eq_true,Bool.not_eq_true',Nat.beq_eq]at hT hn;obtain⟨hT,how⟩:=hT;obtain⟨hn1,hn2,hn3,hn4⟩:=hn;obtain⟨hu,_,hpos,hs⟩:=lI cK hT;obtain⟨parts⟩:=parts;obtain⟨vs,h1,h2,h3,h4⟩:=EA S parts 0 hp;have hz':∀w,(zeroValue E).run P w=.ok z w:=by
  cases ht:jK E tt with
  | none=>simp[ht]at hz
  | some ti=>
    simp[ht]at hz;exact(cK.get ht).zero z hz
 have hlen:vs.length=n:=by
  have:=congrArg List.length h4;simp at this;omega
 have hvs:vs.all (fun v=>Nat.beq v.cells.size sz)=true:=by
  rw[List.all_eq_true];intro v hv;have h5:v.cells.toList∈cs.map (fun c=>c.map (Cell.den κ)):=by rw[← h4];exact List.mem_map_of_mem hv
  obtain⟨c,hc1,hc2⟩:=List.mem_map.1 h5;rw[List.all_eq_true]at hn3;have h6:=hn3 c hc1;simp only[Nat.beq_eq]at h6 ⊢;have:=congrArg List.length hc2;simp at this;omega
 exact Does.p8 (Db hu hs hz' hpos hlen hn2 hn4 h2 h1 hvs (by rw[h4]) (PG.els S cs l hc hn3) S.ctx) yQ fun v w' hk=>EF S how hk
theorem pY(S:St n0 fx env its κ w)(how:its.any Item.ow=false){i n c:Nat}{A:Option Addr}{l l':List α}(hi:its[i]? = some (.o sz E R l))(hc:κ[i]? = some (.r A n c))(hn:n=l.length)(hl:l'.length=l.length){w':World}(h:pz sz E R fx.U0 fx.X0 fx.w0 (dG its κ) w A c l' w') :
 St n0 fx env (its.set i (.o sz E R l')) κ w':=by
 obtain⟨ho,C,Tr⟩:=h;have hil:i<its.length:=(List.getElem?_eq_some_iff.1 hi).1;have hL:dG (its.set i (.o sz E R l')) κ=dG its κ:=by
  apply List.ext_getElem?;intro j;by_cases hj:j=i
  ·subst hj;have h1:(its.set j (.o sz E R l'))[j]? = some (.o sz E R l'):=by rw[List.getElem?_set_self hil]
   rw[bV h1 hc,bV hi hc];rfl
  ·unfold dG;rw[List.getElem?_zipWith,List.getElem?_zipWith,List.getElem?_set_ne (fun e=>hj e.symm)]
 have key:=S.next (env':=env) (aP:=its.set i (.o sz E R l')) (κx:=[]) (w':=w') (X:=[ob A]) (fun j=>j=i) (by simp[S.len]) (by simpa using S.qZ)
  (by
    unfold oq;rw[List.length_set,List.all_eq_true];intro it hit;have hs:=S.DW;unfold oq at hs;rw[List.all_eq_true]at hs;rcases List.mem_or_eq_of_mem_set hit with h | h
    ·exact hs _ h
    ·subst h;rfl)
  (by rw[List.append_nil,hL];exact C) (by rw[List.append_nil,hL];exact Tr)
  (fun j it hj hne hit=>by
    rw[List.getElem?_set_ne (fun e=>hne e.symm)]at hit;refine⟨hit,F5 how _ (List.mem_of_getElem? hit),fun c b' hc' hb' hm=>?_⟩;rw[List.mem_singleton]at hm;have h1:=bV hit hc';rw[hb']at h1;have h2:=bV hi hc;simp only[iC]at h2;rw[← hm]at h2;exact S.ctx.sep j i b' hne h1 h2)
  (fun j it c' hj hit hc'=>by
    rw[List.append_nil]at hc';rcases hj with hj | rfl
    ·have:=(List.getElem?_eq_some_iff.1 hit).1;simp only[List.length_set]at this;omega
    ·rw[List.getElem?_set_self hil]at hit;injection hit with hit;subst hit;rw[hc]at hc';injection hc' with hc';subst hc';rw[List.append_nil,hL];exact⟨by omega,ho⟩)
 rwa [List.append_nil]at key
theorem SB(cK:dX P tt){d:Option Nat}{t:TypeId}{ps:String}{af:Array Edge}{g:Option (Nat×Bool)}{ty l9:TypeId}{x y:Operand}{dA i:Nat}{l m:List α}{v:SV}(hx:jD env x=some (vs i))(hi:its[i]? = some (.o 1 E R l))(hy:jD env y=some v)(hm:Sx its 1 R m v)(hT:(Dt tt ty E 1 dA && !its.any Item.ow)=true) :
 Eff P N n0 fx env its ⟨d,.call { callee:=.builtin .copy,args:=#[x,y],argTypes:=#[ty,l9] },t,ps,af,g⟩ (some (vi .i64 (cZ (len m) (len l)))) (its.set i (.o 1 E R (ET l m))):=fun κ w S a yQ=>by
 simp only[Bool.and_eq_true,Bool.not_eq_true']at hT;obtain⟨hT,how⟩:=hT;obtain⟨hu,⟨info,z,Dl,h1,h2,h3,h4⟩,hpos,_⟩:=lI cK hT;obtain⟨c,hc,hok⟩:=S.gP hi;obtain⟨B,nb,cb,hv,hnb,hs⟩:=hm.src S;cases c with
 | r A n c=>
   obtain⟨hn,ho⟩:=hok;have hx':=eD (κ:=κ) hx;have hy':=eD (κ:=κ) hy;simp only[SV.den,Cell.den,hc]at hx';rw[hv]at hy';rw[hn]at hx';have hL:(dG its κ)[i]? = some (ob A):=bV hi hc;refine Does.p8 (Vh hu (by rw[Dl];simp[h1]) hx' hy' hnb ho hs hL S.ctx) yQ ?_;rintro u w' ⟨rfl,ho'⟩;exact⟨[],fun x hx=>(by injection hx with hx;subst hx;rfl),by rw[List.append_nil];exact pY S how hi hc hn GJ ho'⟩
 | _=>exact hok.elim
def uL(env:bN)(l:Int):Option Operand->Option Int
 | none=>some l
 | some x=>match jD env x with
   | some (.c (.v (.int _ n)))=>some n
   | _=>none
theorem Cu(cK:dX P tt){d:Option Nat}{t:TypeId}{ps:String}{af:Array Edge}{g:Option (Nat×Bool)}{ty:TypeId}{x:Operand}{lo hi':Option Operand}{dA:Nat}{a b:Int}{l l':List α}{v:SV}(hx:jD env x=some v)(hv:(∃j,v=vs j/\its[j]? = some (.d sz R l))∨(v=vn/\l=[]))(hlo:uL env 0 lo=some a)(hhi:uL env (len l) hi'=some b)
 (hs:sub l a b=some l') (hT:Dt tt ty E sz dA=true):Eff P N n0 fx env its ⟨d,.slice ty x lo hi' none,t,ps,af,g⟩ (some (vs its.length)) (its++[.d sz R l']):=fun κ w S ac yQ=>by
 obtain⟨hu,_,hpos,hsz⟩:=lI cK hT;have hsl:∃A n c,v.den κ=.slice A n c/\n=l.length/\Sl sz R (Mu fx.U0 (dG its κ)) w A c l:=by
  rcases hv with⟨j,rfl,hj⟩ | ⟨rfl,rfl⟩
  ·obtain⟨c,hc,hok⟩:=S.gP hj;cases c with
   | r A n c=>exact⟨A,n,c,by simp[SV.den,Cell.den,hc],hok.1,hok.2⟩
   | _=>exact hok.elim
  ·exact⟨none,0,0,rfl,rfl,Sl.OI⟩
 obtain⟨A,n,c,h1,rfl,h3⟩:=hsl;have hx':=eD (κ:=κ) hx;rw[h1]at hx';have bnd:∀(q:Option Operand) (dflt r:Int),uL env dflt q=some r->∃qv,q.mapM (ev (eX κ env))=some qv/\((qv=none/\r=dflt)∨∃k,qv=some (.int k r)):=by
  intro q dflt r h;cases q with
  | none=>simp only[uL,Option.some.injEq]at h;exact⟨none,rfl,.inl ⟨rfl,h.symm⟩⟩
  | some x=>
    simp only[uL]at h;split at h
    ·rename_i k n hx;injection h with h;subst h;exact⟨some (.int k n),by simp[eD hx,SV.den,Cell.den],.inr ⟨k,rfl⟩⟩
    ·cases h
 obtain⟨Jc,hl1,hl2⟩:=bnd lo 0 a hlo;obtain⟨hiv,hh1,hh2⟩:=bnd hi' (len l) b hhi;obtain⟨A',c',hrun,aaW⟩:=Qw (N:=N) hu hsz hx' hl1 hh1 hl2 hh2 h3 hs;refine .inl ⟨_,w,hrun ac yQ,[.r A' l'.length c'],fun x hx=>?_,S.more rfl (nR (P:=fun(it:Item) (c:Conc)=>iC it c=none) rfl) rfl (nR (P:=fun(it:Item) (c:Conc)=>OK _ _ w it c) ⟨rfl,aaW⟩)⟩;injection hx with hx;subst hx;simp only[SV.den,Cell.den];rw[List.getElem?_append_right (by rw[S.len];exact Nat.le_refl _),S.len];simp
end
theorem YG(cK:dX P tt){d:Option Nat}{t:TypeId}{ps:String}{af:Array Edge}{g:Option (Nat×Bool)}{src dst:TypeId}{x:Operand}{l:List Int}{v:SV}(hx:jD env x=some v)(hm:Sx its 1 (dB .u8) l v)
 (hT:(match jK src tt,jK dst tt with
   | some ⟨.slice E,_,_,_,_⟩,some ⟨.string,_,_,_,_⟩=>(match jK E tt with
     | some ⟨.int .u8,_,_,_,_⟩=>true
     | _=>false)
   | _,_=>false)=true):Eff P N n0 fx env its ⟨d,.convert src dst x,t,ps,af,g⟩ (some (vt its.length)) (its++[.str (str l)]):=fun κ w S a yQ=>by
 split at hT
 ·rename_i E _ _ _ _ _ _ _ _ h1 h2;split at hT
  ·rename_i h3;obtain⟨B,nb,cb,hv,hnb,hs⟩:=hm.src S;have hx':=eD (κ:=κ) hx;rw[hv]at hx';obtain⟨s,hr,hst⟩:=ZX (P:=P) (N:=N) (l:=eX κ env) (w:=w) (d:=d) (t:=t) (ps:=ps) (af:=af) (g:=g) (cK.get h1).und (cK.get h3).und (cK.get h2).und hx' hnb hs;refine .inl ⟨_,w,hr a yQ,[.s s],fun x hx=>?_,S.more rfl (nR (P:=fun(it:Item) (c:Conc)=>iC it c=none) rfl) rfl (nR (P:=fun(it:Item) (c:Conc)=>OK _ _ w it c) hst)⟩;injection hx with hx;subst hx;simp only[SV.den,Cell.den];rw[List.getElem?_append_right (by rw[S.len];exact Nat.le_refl _),S.len];simp
  ·cases hT
 ·cases hT
end
end V
end Go.Proofs.YtbgfhaahhdnogaaGreat
