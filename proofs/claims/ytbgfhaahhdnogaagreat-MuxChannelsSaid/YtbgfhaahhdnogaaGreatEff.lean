/- Operations with an effect: new variables, rows, slices. -/
import Derived.Test.YtbgfhaahhdnogaaGreatReg
namespace Go.Proofs.YtbgfhaahhdnogaaGreat
namespace V
def Does(P:Program)(e:Operand->Value)(o:Oper)(w:World)(K:Option Value->World->Prop):Prop:=
 (∃v w',(execOp e o).run P w=.ok (.value v) w'/\K (some v) w')\/(∃w',(execOp e o).run P w=.ok .skip w'/\K none w')\/
 ∃f args,(execOp e o).run P w=.ok (.enter f args) w/\Calls P f args w fun e w'=>∃v,e=.returned v/\K (some v) w'
def Eff(P:Program)(N n0:Nat)(fx:Fx)(env:bP)(its:List Item)(o:Oper)(v:Option SV)(aR:List Item):Prop:=
 ∀κ w,St n0 fx env its κ w->∀a,Holds N (fD κ env) a->Does P a.eval o w fun ov w'=>∃κx,(∀x,v=some x->ov=some (x.den (κ++κx)))/\St n0 fx env aR (κ++κx) w'
section
variable {P:Program} {N n0:Nat} {fx:Fx} {its aR:List Item} {κ:List Conc} {w:World} {tt:TT} {ops:Array Oper} {rest:List Oper} {Kn:Act->World->Prop} {env:bP}
theorem WL.does{l}{d:Option Nat}{op t ps af}(h:∀a,Holds N l a->Does P a.eval ⟨d,op,t,ps,af,none⟩ w fun ov w'=>∀a',(match d,ov with
 | some d,some v=>a'=a.put (some d) v
 | none,_=>a'=a
 | some _,none=>False)->wpList P ops (QN fx.px Kn) rest a' w')(hne:∀d',d=some d'->∀a,Holds N l a->Does P a.eval ⟨d,op,t,ps,af,none⟩ w fun ov _=>ov≠none):WL P fx.px ops (⟨d,op,t,ps,af,none⟩::rest) Kn N l w:=fun a ha=>
 wpList_plain rfl fun K hK=>by
  unfold Oper.wp;rcases h a ha with⟨v,w',h1,h2⟩|⟨w',h1,h2⟩|⟨f,args,h1,h2⟩
  .rw[h1];refine hK _ _ (h2 _ ?_);cases d<;>rfl
  .rw[h1];cases d with
   | none=>exact hK _ _ (h2 _ rfl)
   | some d=>
     exfalso;rcases hne d rfl a ha with⟨v,w',h3,h4⟩|⟨w',h3,h4⟩|⟨f,args,h3,h4⟩
     .rw[h1]at h3;cases h3
     .exact h4 rfl
     .rw[h1]at h3;cases h3
  .rw[h1];refine Calls.mono h2 fun e w' hq=>?_;obtain⟨v,rfl,hv⟩:=hq;refine hK _ _ (hv _ ?_);cases d<;>rfl
theorem M.p8{d:Nat}{op t ps af v}(h:Eff P N n0 fx env its ⟨some d,op,t,ps,af,none⟩ (some v) aR)(hd:Nat.blt d N=true)(hv:v.lt aR.length=true)(hk:M P ops rest Kn N n0 fx ((d,v)::env) aR) :
 M P ops (⟨some d,op,t,ps,af,none⟩::rest) Kn N n0 fx env its:=fun κ w S=>by
 refine WL.does (fun a ha=>?_) (fun d' _ a ha=>?_)
 .have key:∀ov w',(∃κx,(∀x,some v=some x->ov=some (x.den (κ++κx)))/\St n0 fx env aR (κ++κx) w')->∀a',(match some d,ov with
   | some d,some v=>a'=a.put (some d) v
   | none,_=>a'=a
   | some _,none=>False)->wpList P ops (QN fx.px Kn) rest a' w':=by
   rintro ov w' ⟨κx,h1,S'⟩ a' ha';have:=h1 v rfl;subst this;simp only at ha';subst ha';have hk':=hk (κ++κx) w' (S'.env (by
    have:=S'.sj;unfold yh at this |-;simp[hv,this]))
   refine hk' _ ?_;have h2:fD (κ++κx) ((d,v)::env)=(d,v.den (κ++κx))::fD κ env:=by
    show(d,v.den (κ++κx))::fD (κ++κx) env=_;rw[jX (by rw[S.len];exact S.sj)]
   rw[h2];exact ha.put hd
  rcases h κ w S a ha with⟨v,w',h1,h2⟩|⟨w',h1,h2⟩|⟨f,args,h1,h2⟩
  .exact .inl ⟨v,w',h1,key _ _ h2⟩
  .exact .inr (.inl ⟨w',h1,key _ _ h2⟩)
  .exact .inr (.inr ⟨f,args,h1,Calls.mono h2 fun e w' ⟨v,hv,hq⟩=>⟨v,hv,key _ _ hq⟩⟩)
 .rcases h κ w S a ha with⟨v,w',h1,h2⟩|⟨w',h1,h2⟩|⟨f,args,h1,h2⟩
  .exact .inl ⟨v,w',h1,by simp⟩
  .obtain⟨κx,h3,_⟩:=h2;exact absurd (h3 v rfl) (by simp)
  .exact .inr (.inr ⟨f,args,h1,Calls.mono h2 fun e w' ⟨v,hv,hq⟩=>⟨v,hv,by simp⟩⟩)
theorem M.xg{op t ps af v}(h:Eff P N n0 fx env its ⟨none,op,t,ps,af,none⟩ v aR)(hk:M P ops rest Kn N n0 fx env aR) :
 M P ops (⟨none,op,t,ps,af,none⟩::rest) Kn N n0 fx env its:=fun κ w S=>by
 refine WL.does (fun a ha=>?_) (fun d' hd=>by cases hd);have key:∀ov w',(∃κx,(∀x,v=some x->ov=some (x.den (κ++κx)))/\St n0 fx env aR (κ++κx) w')->∀a',(match (none:Option Nat),ov with
  | some d,some v=>a'=a.put (some d) v
  | none,_=>a'=a
  | some _,none=>False)->wpList P ops (QN fx.px Kn) rest a' w':=by
  rintro ov w' ⟨κx,h1,S'⟩ a' ha';have ha'':a'=a:=by cases ov<;>exact ha'
  subst ha'';refine hk (κ++κx) w' S' _ ?_;rw[jX (by rw[S.len];exact S.sj)];exact ha
 rcases h κ w S a ha with⟨v,w',h1,h2⟩|⟨w',h1,h2⟩|⟨f,args,h1,h2⟩
 .exact .inl ⟨v,w',h1,key _ _ h2⟩
 .exact .inr (.inl ⟨w',h1,key _ _ h2⟩)
 .exact .inr (.inr ⟨f,args,h1,Calls.mono h2 fun e w' ⟨v,hv,hq⟩=>⟨v,hv,key _ _ hq⟩⟩)
theorem Ctx.of{U0 X0 w0 w L L'}(C:Ctx U0 X0 w0 L w)(f:Nat->Nat)(hf:∀(i b:Nat),L'[i]?=some (some b)->L[f i]?=some (some b))(hi:∀(i j b:Nat),L'[i]?=some (some b)->L'[j]?=some (some b)->f i=f j->i=j):Ctx U0 X0 w0 L' w:=
 ⟨C.step,C.u0,fun b hb=>by
  obtain⟨i,h⟩:=List.getElem?_of_mem hb;exact C.live b (List.mem_of_getElem? (hf i b h)),fun i j b hij h1 h2=>C.sep (f i) (f j) b (fun e=>hij (hi i j b h1 h2 e)) (hf i b h1) (hf j b h2)⟩
theorem TR.out{U0 w w' L L2 L' X}(T:TR U0 L w L2 w' X)(h:∀b,some b∈L'->some b∈L2):TR U0 L w L' w' X:=⟨T.size,T.block,T.xin,fun b hb hM=>T.mono b hb (Mu.weaken h b hM)⟩
theorem Xl{α:Type}{x:α}{l i y}(h:(l++[x])[i]?=some y):(x::l)[if i=l.length then 0 else i+1]?=some y:=by
 by_cases e:i=l.length
 .subst e;rw[List.getElem?_append_right (Nat.le_refl _)]at h;simpa using h
 .rw[if_neg e];rcases Nat.lt_or_ge i l.length with hlt|hge
  .rw[List.getElem?_append_left hlt]at h;simpa using h
  .rw[List.getElem?_append_right hge]at h;have:([x]:List α)[i-l.length]?=none:=by rw[List.getElem?_eq_none];simp;omega
   rw[this]at h;cases h
theorem Ctx.rot{U0 X0 w0 w x L}(C:Ctx U0 X0 w0 (x::L) w):Ctx U0 X0 w0 (L++[x]) w:=
 C.of (fun i=>if i=L.length then 0 else i+1) (fun i b h=>Xl h) (fun i j b h1 h2 e=>by
  by_cases h3:i=L.length<;>by_cases h4:j=L.length<;>simp[h3,h4]at e<;>omega)
theorem TR.rot{U0 w w' x L0 L X}(T:TR U0 L0 w (x::L) w' X):TR U0 L0 w (L++[x]) w' X:=T.out fun b h=>by simp at h |-;exact h.symm
theorem K9{it c}(h:κ.length=its.length):dL (its++[it]) (κ++[c])=dL its κ++[iM it c]:=by
 unfold dL;rw[List.zipWith_append (by omega)];rfl
theorem Hy{its:List Item}(h:its.any Item.ow=false):∀it∈its,it.ow=false:=fun x hx=>by
 cases hx':x.ow with
 | false=>rfl
 | true=>
   exfalso;have:its.any Item.ow=true:=List.any_eq_true.2 ⟨x,hx,hx'⟩;rw[this]at h;cases h
theorem St.push(S:St n0 fx env its κ w)(how:its.any Item.ow=false){it c w'}(C:Ctx fx.U0 fx.X0 fx.w0 (dL its κ++[iM it c]) w')(T:TR fx.U0 (dL its κ) w (dL its κ++[iM it c]) w' [])(hlt:it.lt (its.length+1)=true)
 (ok:OK (κ++[c]) (Mu fx.U0 (dL its κ++[iM it c])) w' it c):St n0 fx env (its++[it]) (κ++[c]) w':=by
 have hL:=K9 (it:=it) (c:=c) S.len;refine S.next (fun _=>False) (by simp[S.len]) (by rw[List.length_append];exact sH (by simp) S.sj) ?_ (by rw[hL];exact C) (by rw[hL];exact T) ?_ ?_
 .have h1:=vZ (m:=its.length+1) (by omega) S.Fe;unfold oP at h1 |-;simp[h1,hlt]
 .intro i it' hi _ h;rw[List.getElem?_append_left hi]at h;exact⟨h,Hy how _ (List.mem_of_getElem? h),fun _ _ _ _=>by simp⟩
 .intro i it' c' hi h1 h2;have hi:its.length<=i:=hi.elim id False.elim;have e:i=its.length:=by
   have:=(List.getElem?_eq_some_iff.1 h1).1;simp at this;omega
  subst e;rw[List.getElem?_append_right (Nat.le_refl _)]at h1;rw[List.getElem?_append_right (by rw[S.len];exact Nat.le_refl _),S.len]at h2;simp at h1 h2;subst h1;subst h2;rw[hL];exact ok
theorem Does.qV{l o a K K'}(h:K7 P N l o w K)(ha:Holds N l a)(hk:∀v w',K v w'->K' (some v) w'):Does P a.eval o w K':=by
 obtain⟨v,w',h1,h2⟩:=h a ha;exact .inl ⟨v,w',h1,hk v w' h2⟩
theorem FH(S:St n0 fx env its κ w)(how:its.any Item.ow=false){E cs}(hl:cs.all (Cell.lt its.length)=true){v w'}(h:IK fx.U0 fx.X0 fx.w0 (dL its κ) w E (cs.map (Cell.den κ)) v w') :
 ∃κx,(∀x,some (vp its.length 0)=some x->some v=some (x.den (κ++κx)))/\St n0 fx env (its++[.k E cs]) (κ++κx) w':=by
 obtain⟨b,rfl,hb,C,Tr⟩:=h;refine⟨[.b b],fun x hx=>?_,S.push how (it:=.k E cs) (c:=.b b) C.rot Tr.rot (fP (by omega) hl) ?_⟩
 .injection hx with hx;subst hx;simp only[SV.den,Cell.den];rw[List.getElem?_append_right (by rw[S.len];exact Nat.le_refl _),S.len];simp
 .simp only[OK];rw[gT (by rw[S.len];exact hl)];exact hb
def boxC(env:bP)(its:List Item):Op->Option (TypeId×List Cell)
 | .box E x=>match jN env x with
   | some v=>(match v.cells its with
     | some cs=>(match cs.all (Cell.lt its.length) && !its.any Item.ow with
       | true=>some (E,cs)
       | false=>none)
     | none=>none)
   | none=>none
 | _=>none
theorem bR{d:Option Nat}{t ps af g op E}cs(h:boxC env its op=some (E,cs)):Eff P N n0 fx env its ⟨d,op,t,ps,af,g⟩ (some (vp its.length 0)) (its++[.k E cs]):=fun κ w S a ha=>by
 unfold boxC at h;split at h
 .split at h
  .rename_i v hx;split at h
   .rename_i cs' hc;split at h
    .rename_i hb;simp only[Option.some.injEq,Prod.mk.injEq]at h;obtain⟨rfl,rfl⟩:=h;simp only[Bool.and_eq_true,Bool.not_eq_true']at hb;exact Does.qV (aa9 (eD hx) (lK S.NZ hc) S.ctx) ha fun v w' hk=>FH S hb.2 hb.1 hk
    .cases h
   .cases h
  .cases h
 .cases h
def VE(tt:TT)(its:List Item):Op->Option (TypeId×List Cell)
 | .alloc E=>match jU E tt with
   | some ⟨_,_,_,some z,_⟩=>(match its.any Item.ow with
     | false=>some (E,z.cells.toList.map .v)
     | true=>none)
   | _=>none
 | _=>none
theorem eA{d:Option Nat}{t ps af g op E}(bZ:eu P tt)cs(h:VE tt its op=some (E,cs)):Eff P N n0 fx env its ⟨d,op,t,ps,af,g⟩ (some (vp its.length 0)) (its++[.k E cs]):=fun κ w S a ha=>by
 unfold VE at h;split at h
 .split at h
  .rename_i E' u ag n z bt ht;split at h
   .rename_i hb;simp only[Option.some.injEq,Prod.mk.injEq]at h;obtain⟨rfl,rfl⟩:=h;have hz:z.cells=((z.cells.toList.map Cell.v).map (Cell.den κ)).toArray:=by
     rw[List.map_map,show(Cell.den κ ∘ Cell.v)=id from rfl,List.map_id]
    exact Does.qV (Sn ((bZ.get ht).zero z rfl) hz S.ctx) ha fun v w' hk=>FH S hb (by simp[Cell.lt]) hk
   .cases h
  .cases h
 .cases h
section
variable {α:Type} {sz:Nat} {E:TypeId} {R:RT α} [dM R]
theorem FE(S:St n0 fx env its κ w)(how:its.any Item.ow=false){l v w'}(h:vI sz E R fx.U0 fx.X0 fx.w0 (dL its κ) w [] (fun y=>y::dL its κ) l v w') :
 ∃κx,(∀x,some (vs its.length)=some x->some v=some (x.den (κ++κx)))/\St n0 fx env (its++[.o sz E R l]) (κ++κx) w':=by
 obtain⟨A,c,rfl,ho,C,Tr⟩:=h;refine⟨[.r A l.length c],fun x hx=>?_,S.push how (it:=.o sz E R l) (c:=.r A l.length c) C.rot Tr.rot rfl ⟨rfl,?_⟩⟩
 .injection hx with hx;subst hx;simp only[SV.den,Cell.den];rw[List.getElem?_append_right (by rw[S.len];exact Nat.le_refl _),S.len];simp
 .exact ho.mu (Mu.weaken fun b h=>by simp at h |-;exact h.symm)
inductive Sx{α:Type}(its:List Item)(sz:Nat)(R:RT α) [dM R](l:List α):SV->Prop
 | o {j:Nat} (E:TypeId) (h:its[j]?=some (.o sz E R l)):Sx its sz R l (vs j)
 | r {j:Nat} (h:its[j]?=some (.d sz R l)):Sx its sz R l (vs j)
 | n (h:l=[]):Sx its sz R l vn
theorem Sx.src{l v}(S:St n0 fx env its κ w)(h:Sx its sz R l v):∃A n c,v.den κ=.slice A n c/\n=l.length/\Src sz R (Mu fx.U0 (dL its κ)) w A l:=by
 cases h with
 | @o j E h=>
   obtain⟨c,h1,h2⟩:=S.iy h;cases c with
   | r A n c=>exact⟨A,n,c,by simp[SV.den,Cell.den,h1],h2.1,h2.2.src⟩
   | _=>exact h2.elim
 | @r j h=>
   obtain⟨c,h1,h2⟩:=S.iy h;cases c with
   | r A n c=>exact⟨A,n,c,by simp[SV.den,Cell.den,h1],h2.1,h2.2.src⟩
   | _=>exact h2.elim
 | n h=>
   subst h;exact⟨none,0,0,rfl,rfl,(Sl.Qd:Sl sz R _ _ none 0 []).src⟩
def EL(tt:TT)(ty E:TypeId)(sz dF:Nat):Bool:=match jU ty tt,jU E tt with
 | some ⟨.slice E',_,_,_,_⟩,some ti=>Nat.beq E E'&&(Nat.beq ti.size sz&&(Nat.beq ti.bytes dF&&Nat.blt 0 sz))
 | _,_=>false
theorem lX(bZ:eu P tt){ty dF}(h:EL tt ty E sz dF=true):P.underlying ty=some (.slice E)/\(∃i z,P.info? E=some i/\i.size=sz/\i.bytes=dF/\i.zero=some z/\z.cells.size=sz)/\Nat.blt 0 sz=true/\(∀w,(sizeOf E).run P w=.ok sz w):=by
 unfold EL at h;split at h
 .rename_i E' _ _ _ _ ti h1 h2;simp only[Bool.and_eq_true,Nat.beq_eq]at h;obtain⟨rfl,rfl,rfl,h3⟩:=h;exact⟨(bZ.get h1).und,(bZ.get h2).info,h3,(bZ.get h2).size⟩
 .cases h
theorem IC(S:St n0 fx env its κ w)(how:its.any Item.ow=false){i n c A l l' Ms}(hl0:∀m,Ms.lt m=true)(hn0:iM Ms (.r A n c)=none)(hk0:∀κ U w,OK κ U w Ms (.r A n c))(hi:its[i]?=some (.o sz E R l))(hc:κ[i]?=some (.r A n c)){u w'}(h:vI sz E R fx.U0 fx.X0 fx.w0 (dL its κ) w [ob A] ((dL its κ).set i) l' u w') :
 ∃κx,(∀x,some (vs its.length)=some x->some u=some (x.den (κ++κx)))/\St n0 fx env (its.set i Ms++[.o sz E R l']) (κ++κx) w':=by
 have hil:i<its.length:=(List.getElem?_eq_some_iff.1 hi).1;have hL:(dL its κ)[i]?=some (ob A):=bU hi hc;obtain⟨A',c',rfl,ho',C,Tr⟩:=h;have hlen:(dL its κ).length=its.length:=by simp[dL,S.len]
 have hL':dL (its.set i Ms++[.o sz E R l']) (κ++[.r A' l'.length c'])=(dL its κ).set i none++[ob A']:=by
  rw[K9 (by simp[S.len])];congr 1;apply List.ext_getElem?;intro j;by_cases hj:j=i
  .subst hj;rw[List.getElem?_set_self (by rw[hlen];exact hil)];rw[bU (by rw[List.getElem?_set_self hil]) hc,hn0]
  .rw[List.getElem?_set_ne (fun e=>hj e.symm)];unfold dL;rw[List.getElem?_zipWith,List.getElem?_zipWith,List.getElem?_set_ne (fun e=>hj e.symm)]
 have hin:∀b,some b∈(dL its κ).set i none++[ob A']->some b∈(dL its κ).set i (ob A'):=by
  intro b hb;rcases List.mem_append.1 hb with h|h
  .obtain⟨j,hj⟩:=List.getElem?_of_mem h;by_cases e:j=i
   .subst e;rw[List.getElem?_set_self (by rw[hlen];exact hil)]at hj;cases hj
   .rw[List.getElem?_set_ne (fun h=>e h.symm)]at hj;exact List.mem_of_getElem? (i:=j) (by rw[List.getElem?_set_ne (fun h=>e h.symm)];exact hj)
  .rw[List.mem_singleton]at h;exact List.mem_of_getElem? (i:=i) (by rw[List.getElem?_set_self (by rw[hlen];exact hil),h])
 refine⟨[.r A' l'.length c'],fun x hx=>?_,?_⟩
 .injection hx with hx;subst hx;simp only[SV.den,Cell.den];rw[List.getElem?_append_right (by rw[S.len];exact Nat.le_refl _),S.len];simp
 .refine S.next (fun j=>j=i) (by simp[S.len]) (by rw[List.length_append,List.length_set];exact sH (by simp) S.sj) ?_ ?_ (X:=[ob A]) (by rw[hL'];exact Tr.out hin) ?_ ?_
  .unfold oP;rw[List.all_eq_true];intro it hit;have h1:=vZ (m:=its.length+1) (by omega) S.Fe;unfold oP at h1;rw[List.all_eq_true]at h1;rw[List.length_append,List.length_set];rcases List.mem_append.1 hit with h|h
   .rcases List.mem_or_eq_of_mem_set h with h|h
    .exact h1 _ h
    .subst h;exact hl0 _
   .rw[List.mem_singleton]at h;subst h;rfl
  .rw[hL'];refine C.of (fun j=>if j=its.length then i else j) (fun j b h=>?_) (fun j k b h1 h2 e=>?_)
   .by_cases e:j=its.length
    .subst e;rw[List.getElem?_append_right (by simp[hlen])]at h;simp[hlen]at h;simp only[if_true];rw[List.getElem?_set_self (by rw[hlen];exact hil),h]
    .rw[if_neg e];rcases Nat.lt_or_ge j its.length with hlt|hge
     .rw[List.getElem?_append_left (by simp[hlen,hlt])]at h;by_cases ej:j=i
      .subst ej;rw[List.getElem?_set_self (by rw[hlen];exact hil)]at h;cases h
      .rw[List.getElem?_set_ne (fun h=>ej h.symm)]at h |-;exact h
     .have:=(List.getElem?_eq_some_iff.1 h).1;simp[hlen]at this;omega
   .have hne:∀j,((dL its κ).set i none++[ob A'])[j]?=some (some b)->j≠i:=by
     intro j h e;subst e;rw[List.getElem?_append_left (by simp[hlen,hil]),List.getElem?_set_self (by rw[hlen];exact hil)]at h;cases h
    have h3:=hne j h1;have h4:=hne k h2;by_cases e1:j=its.length<;>by_cases e2:k=its.length<;>simp[e1,e2]at e |-<;>omega
  .intro j it hj hne hit;rw[List.getElem?_append_left (by simpa using hj),List.getElem?_set_ne (fun h=>hne h.symm)]at hit;refine⟨hit,Hy how _ (List.mem_of_getElem? hit),fun c0 b hc0 hb hm=>?_⟩;rw[List.mem_singleton]at hm;have h1:=bU hit hc0;rw[hb,hm]at h1;rw[<-hm]at hL;rw[<-hm]at h1;exact S.ctx.sep j i b hne h1 hL
  .intro j it c0 hj hit hc0;rcases hj with hj|rfl
   .have e:j=its.length:=by
     have:=(List.getElem?_eq_some_iff.1 hit).1;simp at this;omega
    subst e;rw[List.getElem?_append_right (by simp)]at hit;rw[List.getElem?_append_right (by rw[S.len];exact Nat.le_refl _),S.len]at hc0;simp at hit hc0;subst hit;subst hc0;rw[hL'];exact⟨rfl,ho'.mu (Mu.weaken hin)⟩
   .rw[List.getElem?_append_left (by simpa using hil),List.getElem?_set_self hil]at hit;injection hit with hit;rw[List.getElem?_append_left (List.getElem?_eq_some_iff.1 hc).1,hc]at hc0;injection hc0 with hc0;subst hc0;subst hit;exact hk0 _ _ _
theorem zF(S:St n0 fx env its κ w)(how:its.any Item.ow=false){i n c A l l'}(hi:its[i]?=some (.o sz E R l))(hc:κ[i]?=some (.r A n c)){u w'}(h:vI sz E R fx.U0 fx.X0 fx.w0 (dL its κ) w [ob A] ((dL its κ).set i) l' u w') :
 ∃κx,(∀x,some (vs its.length)=some x->some u=some (x.den (κ++κx)))/\St n0 fx env (its.set i .e++[.o sz E R l']) (κ++κx) w':=
 IC (Ms:=.e) S how (fun _=>rfl) rfl (fun _ _ _=>trivial) hi hc h
def RU:RT Unit:=fun _ _ cs _=>cs=[]
instance:dM RU:=⟨fun h _ _=>h,fun h u hu=>by unfold RU at h;subst h;simp at hu⟩
theorem gW(bZ:eu P tt){d:Option Nat}{t ps af g ty x y dF i l m l' v}(hx:jN env x=some (vs i))(hi:its[i]?=some (.o sz E R l))(hy:jN env y=some v)(hm:Sx its sz R m v)
 (ha:app dF l m=some l') (hT:(EL tt ty E sz dF && !its.any Item.ow)=true) :
 Eff P N n0 fx env its ⟨d,.call {callee:=.builtin .append,args:=#[x,y],argTypes:=#[ty,ty]},t,ps,af,g⟩ (some (vs its.length)) (its.set i .e++[.o sz E R l']):=fun κ w S a zw=>by
 simp only[Bool.and_eq_true,Bool.not_eq_true']at hT;obtain⟨hT,how⟩:=hT;obtain⟨hu,⟨info,z,EF,h1,h2,h3,h4⟩,hpos,_⟩:=lX bZ hT;obtain⟨c,hc,hok⟩:=S.iy hi;obtain⟨B,nb,cb,hv,hnb,hs⟩:=hm.src S;cases c with
 | r A n c=>
   obtain⟨hn,ho⟩:=hok;subst hn;have hx':=eD (κ:=κ) hx;have hy':=eD (κ:=κ) hy;simp only[SV.den,Cell.den,hc]at hx';rw[hv]at hy';have hL:(dL its κ)[i]?=some (ob A):=bU hi hc;refine Does.qV (Pf hu EF h3 h1 h2 h4 hpos hx' hy' hnb ho hs ha hL S.ctx) zw ?_;exact fun u w' h=>zF S how hi hc h
 | _=>exact hok.elim
theorem MN(bZ:eu P tt){d:Option Nat}{t ps af g ty x y dF k k' n z e l}(hx:jN env x=some (vi k n))(hy:jN env y=some (vi k' n))(hz:(jU E tt).bind (·.zero)=some z)(hr:∀U w,R U w z.cells.toList e)
 (hm:mk dF e n=some l) (hT:(EL tt ty E sz dF && !its.any Item.ow)=true) :
 Eff P N n0 fx env its ⟨d,.makeSlice ty x y,t,ps,af,g⟩ (some (vs its.length)) (its++[.o sz E R l]):=fun κ w S a zw=>by
 simp only[Bool.and_eq_true,Bool.not_eq_true']at hT;obtain⟨hT,how⟩:=hT;obtain⟨hu,⟨info,z',EF,h1,h2,h3,h4⟩,hpos,_⟩:=lX bZ hT;have hzz:z'=z:=by
  cases ht:jU E tt with
  | none=>simp[ht]at hz
  | some ti=>
    simp[ht]at hz;have:=(bZ.get ht).zero z hz;have h5:∀w,(zeroValue E).run P w=.ok z' w:=fun w=>by
     simp[zeroValue,typeInfo,EF,h3]
    have h6:=(this w).symm.trans (h5 w);injection h6 with h6;exact h6.symm
 subst hzz;exact Does.qV (Xb hu EF h3 h1 h2 (by simp) (by simpa using h4) (eD hx) (eD hy) hr hm S.ctx) zw fun v w' hk=>FE S how hk
end
end
section
variable {P:Program} {N n0:Nat} {fx:Fx} {its aR:List Item} {κ:List Conc} {w:World} {tt:TT} {ops:Array Oper} {rest:List Oper} {Kn:Act->World->Prop} {env:bP}
theorem OK.ext{κx it c U U'}(hsc:it.lt κ.length=true)(hU:∀b,U' b->U b)(h:OK κ U w it c):OK (κ++κx) U' w it c:=by
 cases it with
 | k Ty cs=>cases c with
   | b n=>
     simp only[OK]at h |-;rw[gT hsc];exact h
   | _=>exact h.elim
 | elt src ow cs=>cases c with
   | a ad=>
     cases src with
     | none=>
       simp only[OK]at h |-;rw[gT (by simpa [Item.lt]using hsc)];exact⟨h.1.mu hU,h.2⟩
     | some q=>
       obtain⟨i,iv⟩:=q;simp only[Item.lt,Bool.and_eq_true,Nat.blt_eq]at hsc;simp only[OK]at h |-;rw[gT hsc.2];obtain⟨h1,h2,A,n,c,h3,h4⟩:=h;exact⟨h1.mu (fun b hb=>⟨hb.1,hU b hb.2⟩),h2,A,n,c,by rw[List.getElem?_append_left hsc.1];exact h3,h4⟩
   | _=>cases src<;>exact h.elim
 | o sz E R l=>cases c with
   | r A n c=>
     simp only[OK]at h |-;exact⟨h.1,h.2.mu hU⟩
   | _=>exact h.elim
 | d sz R l=>cases c with
   | r A n c=>
     simp only[OK]at h |-;exact⟨h.1,h.2.mu hU⟩
   | _=>exact h.elim
 | mp k R ow l=>cases c with
   | m b=>
     cases ow with
     | true=>
       simp only[OK]at h |-;obtain⟨n,rfl,hm⟩:=h;exact⟨n,rfl,hm.step rfl (fun _ _ _=>rfl) (fun b _=>hU b)⟩
     | false=>
       simp only[OK]at h |-;rcases h with h|⟨n,rfl,hn,hm⟩
       .exact .inl h
       .exact .inr ⟨n,rfl,fun q=>hn (hU n q),hm.step rfl (fun _ _ _=>rfl) (fun b _=>hU b)⟩
   | _=>cases ow<;>exact h.elim
 | lm k l=>cases c with
   | m b=>
     simp only[OK]at h |-;obtain⟨n,rfl,hm⟩:=h;have e:(l.map fun p=>(p.1,p.2.den (κ++κx)))=l.map fun p=>(p.1,p.2.den κ):=List.map_congr_left fun p hp=>by
      simp only[Item.lt,List.all_eq_true]at hsc;rw[uy (hsc p hp)]
     rw[e];exact⟨n,rfl,hm.step rfl (fun _ _ _=>rfl) (fun b _=>hU b)⟩
   | _=>exact h.elim
 | str s=>cases c with
   | s x=>exact h
   | _=>exact h.elim
 | F6=>cases c with
   | b n=>exact h
   | _=>exact h.elim
 | e=>trivial
theorem TG{l:List (Option Nat)}(h:∀x∈l,x=none){i b:Nat}:l[i]?≠some (some b):=fun e=>by
 have:=h _ (List.mem_of_getElem? e);cases this
theorem St.more(S:St n0 fx env its κ w){nW κ2}(hl:κ2.length=nW.length)(hn:∀(i:Nat) it c,nW[i]?=some it->κ2[i]?=some c->iM it c=none)(hs:nW.all (Item.lt (its.length+nW.length))=true)
 (hok:∀(i:Nat) it c,nW[i]?=some it->κ2[i]?=some c->OK (κ++κ2) (Mu fx.U0 (dL its κ)) w it c):St n0 fx env (its++nW) (κ++κ2) w:=by
 have hL:dL (its++nW) (κ++κ2)=dL its κ++dL nW κ2:=by
  unfold dL;rw[List.zipWith_append (by rw[S.len])]
 have hnone:∀x∈dL nW κ2,x=none:=by
  intro x hx;obtain⟨i,hi⟩:=List.getElem?_of_mem hx;cases x with
  | none=>rfl
  | some b=>
    obtain⟨it,c,h1,h2,h3⟩:=uF hi;rw[hn i it c h1 h2]at h3;cases h3
 have hmem:∀b,some b∈dL its κ++dL nW κ2->some b∈dL its κ:=by
  intro b hb;rcases List.mem_append.1 hb with h|h
  .exact h
  .exact absurd (hnone _ h) (by simp)
 have hget:∀(i b:Nat),(dL its κ++dL nW κ2)[i]?=some (some b)->(dL its κ)[i]?=some (some b):=by
  intro i b h;rcases Nat.lt_or_ge i (dL its κ).length with hlt|hge
  .rwa [List.getElem?_append_left hlt]at h
  .rw[List.getElem?_append_right hge]at h;exact absurd h (TG hnone)
 refine⟨by simp[S.len,hl],?_,by rw[List.length_append];have:=S.n0;omega,by rw[List.length_append];exact sH (by omega) S.sj,?_,?_,fun i it c h1 h2=>?_⟩
 .rw[List.take_append_of_le_length S.n0];exact S.pre
 .have h1:=vZ (m:=its.length+nW.length) (by omega) S.Fe;unfold oP at h1 |-;rw[List.length_append,List.all_append,h1,hs];rfl
 .rw[hL];exact S.ctx.of id (fun i b h=>hget i b h) (fun i j b _ _ e=>e)
 .rw[hL];have hU:∀b,Mu fx.U0 (dL its κ++dL nW κ2) b->Mu fx.U0 (dL its κ) b:=Mu.weaken hmem;rcases Nat.lt_or_ge i its.length with hlt|hge
  .rw[List.getElem?_append_left hlt]at h1;rw[List.getElem?_append_left (by rw[S.len];exact hlt)]at h2;have hsc:it.lt κ.length=true:=by
    have h3:=S.Fe;unfold oP at h3;rw[List.all_eq_true]at h3;rw[S.len];exact h3 _ (List.mem_of_getElem? h1)
   exact OK.ext hsc hU (S.ok i it c h1 h2)
  .rw[List.getElem?_append_right hge]at h1;rw[List.getElem?_append_right (by rw[S.len];exact hge),S.len]at h2;have h3:=hok _ it c h1 h2;have hlt2:it.lt (κ++κ2).length=true:=by
    rw[List.all_eq_true]at hs;rw[List.length_append,S.len,hl];exact hs _ (List.mem_of_getElem? h1)
   have h4:=OK.ext (κ:=κ++κ2) (κx:=[]) hlt2 hU h3;rwa [List.append_nil]at h4
def Pre(n0:Nat)(fx:Fx)(env:bP)(its nW:List Item):Prop:=∀κ w,St n0 fx env its κ w->∃κx,St n0 fx env nW (κ++κx) w
theorem M.pre(h:Pre n0 fx env its aR)(hk:M P ops rest Kn N n0 fx env aR):M P ops rest Kn N n0 fx env its:=fun κ w S=>by
 obtain⟨κx,S'⟩:=h κ w S;have:=hk _ _ S';rwa [jX (by rw[S.len];exact S.sj)]at this
theorem Z.pre{Ke Kr c}(h:Pre n0 fx env its aR)(hk:Z P c Kn Ke Kr N n0 fx env aR):Z P c Kn Ke Kr N n0 fx env its:=fun κ w S=>by
 obtain⟨κx,S'⟩:=h κ w S;have:=hk _ _ S';rwa [jX (by rw[S.len];exact S.sj)]at this
class dw {α:Type} (R:RT α) [dM R] where
 cells:α->Nat->List Cell
 its:α->List Item
 op:∀{U:Nat->Prop} {w:World} {cs:List Value} {x:α},R U w cs x->∃κs:List Conc,κs.length=(its x).length/\(∀κ:List Conc,cs=(cells x κ.length).map (Cell.den (κ++κs)))/\
  (∀n,(cells x n).all (Cell.lt (n+(its x).length))=true)/\∀(i:Nat) it c,(its x)[i]?=some it->κs[i]?=some c->iM it c=none/\(∀n,it.lt n=true)/\∀κ,OK κ U w it c
instance(k:IntKind):dw (dG k):=⟨fun x _=>[ci k x],fun _=>[],fun h=>⟨[],rfl,fun _=>h,fun _=>rfl,fun i it c h=>by simp at h⟩⟩
instance:dw K8:=⟨fun x _=>[cb x],fun _=>[],fun h=>⟨[],rfl,fun _=>h,fun _=>rfl,fun i it c h=>by simp at h⟩⟩
theorem jc{κ κs:List Conc}i:(κ++κs)[κ.length+i]?=κs[i]?:=by
 rw[List.getElem?_append_right (by omega)];congr 1;omega
theorem gD{κ κs:List Conc}:(κ++κs)[κ.length]?=κs[0]?:=jc 0
theorem ou{α:Type 1}{β:Type}{P:α->β->Prop}{x y}(h:P x y):∀(i:Nat) a b,[x][i]?=some a->[y][i]?=some b->P a b:=fun i a b h1 h2=>by
 cases i with
 | zero=>simp at h1 h2;subst h1;subst h2;exact h
 | succ i=>simp at h1
instance:dw adn:=⟨fun _ n=>[.t n],fun s=>[.str s],fun {U w cs x} h=>by
 obtain⟨b,rfl,hb⟩:=h;refine⟨[.s b],rfl,fun κ=>?_,fun n=>by simp[Cell.lt],?_⟩
 .simp[Cell.den,gD]
 .exact ou (P:=fun(it:Item) (c:Conc)=>iM it c=none/\(∀n,it.lt n=true)/\∀κ,OK κ U w it c) ⟨rfl,fun _=>rfl,fun _=>hb⟩⟩
instance{α:Type}(sz:Nat)(R:RT α) [dM R]:dw (aN sz R):=⟨fun _ n=>[.s n],fun l=>[.d sz R l],fun {U w cs x} h=>by
 obtain⟨A,c,rfl,hb⟩:=h;refine⟨[.r A x.length c],rfl,fun κ=>?_,fun n=>by simp[Cell.lt],?_⟩
 .simp[Cell.den,gD]
 .exact ou (P:=fun(it:Item) (c:Conc)=>iM it c=none/\(∀n,it.lt n=true)/\∀κ,OK κ U w it c) ⟨rfl,fun _=>rfl,fun _=>⟨rfl,hb⟩⟩⟩
theorem AA{α R}[dM R][dw R](S:St n0 fx env its κ w){i}{iv:Int}{ow}{x:α}{ad es}(hU:At (fun b=>ow=false/\Mu fx.U0 (dL its κ) b) w ad es)(hne:es≠[])(hr:R (Mu fx.U0 (dL its κ)) w es x)
 (hi:i<its.length) (ho:∃A n c,κ[i]?=some (.r (some A) n c)/\ad=A.add (iv.toNat*es.length)/\0<=iv/\iv<n):∃κx,St n0 fx env (its++(.elt (some (i,iv)) ow (dw.cells R x (its.length+1))::dw.its R x)) (κ++κx) w:=by
 obtain⟨κs,h1,h2,h3,h4⟩:=dw.op hr;have hcs:es=(dw.cells R x (its.length+1)).map (Cell.den (κ ++ .a ad::κs)):=by
  have:=h2 (κ++[.a ad]);rw[List.length_append,List.length_singleton,S.len,List.append_assoc]at this;exact this
 have hlen:es.length=(dw.cells R x (its.length+1)).length:=by rw[hcs];simp
 refine⟨.a ad::κs,S.more (by simp[h1]) ?_ ?_ ?_⟩
 .intro j it c hj hc;cases j with
  | zero=>simp at hj hc;subst hj;subst hc;rfl
  | succ j=>simp at hj hc;exact(h4 j it c hj hc).1
 .rw[List.all_cons,Bool.and_eq_true];constructor
  .simp only[Item.lt,List.length_cons,Bool.and_eq_true,Nat.blt_eq];refine⟨by omega,fP ?_ (h3 (its.length+1))⟩;omega
  .rw[List.all_eq_true];intro it hit;obtain⟨j,hj⟩:=List.getElem?_of_mem hit;have hjl:j<κs.length:=by rw[h1];exact(List.getElem?_eq_some_iff.1 hj).1
   exact(h4 j it _ hj (List.getElem?_eq_getElem hjl)).2.1 _
 .intro j it c hj hc;cases j with
  | zero=>
    simp at hj hc;subst hj;subst hc;obtain⟨A,n,c,h5,h6,h7⟩:=ho;simp only[OK];rw[<-hcs];refine⟨hU,fun e=>hne (by rw[hcs,e];rfl),A,n,c,?_,by rw[<-hlen];exact h6,h7⟩;rw[List.getElem?_append_left (by rw[S.len];exact hi)];exact h5
  | succ j=>simp at hj hc;exact(h4 j it c hj hc).2.2 _
section
variable {α:Type} {sz:Nat} {E:TypeId} {R:RT α} [dM R]
theorem pX[dw R]{i iv l x}(hi:its[i]?=some (.d sz R l))(hpos:Nat.blt 0 sz=true)(he:idx l iv=some x):Pre n0 fx env its (its++(.elt (some (i,iv)) false (dw.cells R x (its.length+1))::dw.its R x)):=fun κ w S=>by
 obtain⟨c,hc,hok⟩:=S.iy hi;have hpos':0<sz:=by simpa [Nat.blt_eq]using hpos
 cases c with
 | r A n c=>
   obtain⟨hn,hsl⟩:=hok;obtain⟨h0,h1,hx⟩:=pU he;obtain⟨_,_,es,hes,hm⟩:=hsl;obtain⟨e1,hl1,hr,hcell⟩:=fJ.get l es iv.toNat x hes hx;have hne:e1≠[]:=fun e=>by rw[e]at hl1;simp at hl1;omega
   have hA:∃ad,A=some ad:=by
    match e1,hne with
    | u::e1,_=>
      obtain⟨ad,hA,_⟩:=hm _ u (hcell 0 u rfl);exact⟨ad,hA⟩
   obtain⟨ad,rfl⟩:=hA;have hall:∀j u,e1[j]?=some u->¬ Mu fx.U0 (dL its κ) ad.block/\w.cell? ((ad.add (iv.toNat*sz)).add j)=some u:=fun j u hu=>by
    obtain⟨ad',h1,h2,h3⟩:=hm _ u (hcell j u hu);injection h1 with h1;subst h1;rw[add_add];exact⟨h2,h3⟩
   have hat:At (fun b=>false=false/\Mu fx.U0 (dL its κ) b) w (ad.add (iv.toNat*sz)) e1:=⟨fun h=>by
    rw[block_add]at h
    match e1,hne with
    | u::e1,_=>exact(hall 0 u rfl).1 h.2,fun j u hu=>(hall j u hu).2⟩
   exact AA (ow:=false) S hat hne hr (List.getElem?_eq_some_iff.1 hi).1 ⟨ad,n,c,hc,by rw[hl1],h0,by omega⟩
 | _=>exact hok.elim
theorem fK[dw R]{i iv l x}(hi:its[i]?=some (.o sz E R l))(hpos:Nat.blt 0 sz=true)(he:idx l iv=some x):Pre n0 fx env its (its++(.elt (some (i,iv)) true (dw.cells R x (its.length+1))::dw.its R x)):=fun κ w S=>by
 obtain⟨c,hc,hok⟩:=S.iy hi;have hpos':0<sz:=by simpa [Nat.blt_eq]using hpos
 cases c with
 | r A n c=>
   obtain⟨hn,ho⟩:=hok;obtain⟨h0,h1,hx⟩:=pU he;rcases gU ho with⟨rfl,rfl,rfl⟩|⟨b,pre,cur,post,fz,rfl,_,hg,_,_,hsz,hes⟩
   .simp at hx
   obtain⟨e1,hl1,hr,hcell⟩:=fJ.get l _ iv.toNat x hes hx;have hne:e1≠[]:=fun e=>by rw[e]at hl1;simp at hl1;omega
   have hcl:∀j u,e1[j]?=some u->w.cell? (((⟨b,pre.length,none⟩:Addr).add (iv.toNat*sz)).add j)=some u:=by
    intro j u hu;have:=hcell j u hu;rw[add_add,add_lit];rw[List.getElem?_take]at this;split at this
    .have hj:=(List.getElem?_eq_some_iff.1 this).1;simp only[World.cell?,hg];rw[<-this,<-uq (pre:=pre) (post:=post) hj];simp
    .cases this
   have hat:At (fun b=>true=false/\Mu fx.U0 (dL its κ) b) w ((⟨b,pre.length,none⟩:Addr).add (iv.toNat*sz)) e1:=⟨fun h=>(by cases h.1),hcl⟩;exact AA (ow:=true) S hat hne hr (List.getElem?_eq_some_iff.1 hi).1 ⟨_,n,c,hc,by rw[hl1],h0,by omega⟩
 | _=>exact hok.elim
def dB(its:List Item)(R:RT α)(cs:List Cell)(x:α):Prop:=∀{n0:Nat} {fx:Fx} {env:bP} {κ:List Conc} {w:World},St n0 fx env its κ w->R (Mu fx.U0 (dL its κ)) w (cs.map (Cell.den κ)) x
theorem dB.sl{j l}(h:its[j]?=some (.d sz R l)):dB its (aN sz R) [.s j] l:=fun S=>by
 obtain⟨c,h1,h2⟩:=S.iy h;cases c with
 | r A n c=>
   obtain⟨rfl,h3⟩:=h2;exact⟨A,c,by simp[Cell.den,h1],h3⟩
 | _=>exact h2.elim
theorem dB.int{k x}:dB its (dG k) [ci k x] x:=fun _=>rfl
theorem dB.bool{x}:dB its K8 [cb x] x:=fun _=>rfl
theorem dB.str{c s}(h:Jl its c=some s):dB its adn [c] s:=fun S=>by
 obtain⟨b,h1,h2⟩:=tZ S.NZ h;exact⟨b,by simp[h1],h2⟩
def Q9(its:List Item)(sz:Nat)(R:RT α):List (List Cell)->List α->Prop
 | [],[]=>True
 | c::cs,x::xs=>dB its R c x/\Q9 its sz R cs xs
 | _,_=>False
theorem Q9.els{β z}{R':RT β}(S:St n0 fx env its κ w):∀cs l,Q9 its z R' cs l->(cs.all fun c=>Nat.beq c.length z)=true->fJ z R' (Mu fx.U0 (dL its κ)) w (cs.map (fun c=>c.map (Cell.den κ))).flatten l
 | [],[],_,_=>rfl
 | c::cs,x::xs,h,hl=>by
   simp only[List.all_cons,Bool.and_eq_true,Nat.beq_eq]at hl;exact⟨c.map (Cell.den κ),_,rfl,by simpa using hl.1,h.1 S,Q9.els S cs xs h.2 hl.2⟩
 | [],x::xs,h,_=>h.elim
 | c::cs,[],h,_=>h.elim
def Ct(env:bP)(its:List Item)(k:Nat):List (Nat×Operand)->Option (List (List Cell))
 | []=>some []
 | (i,x)::r=>match Nat.beq i k,jN env x with
  | true,some v=>(match v.cells its,Ct env its (k+1) r with
    | some c,some cs=>some (c::cs)
    | _,_=>none)
  | _,_=>none
theorem FB(S:St n0 fx env its κ w):∀ps k {cs},Ct env its k ps=some cs->
 ∃vs,ps.mapM (fun p=>ev (fD κ env) p.2)=some vs/\ps.map (·.1)=List.range' k ps.length/\vs.length=ps.length/\vs.map (·.cells.toList)=cs.map (fun c=>c.map (Cell.den κ))
 | [],k,cs,h=>by
   simp only[Ct,Option.some.injEq]at h;subst h;exact⟨[],rfl,rfl,rfl,rfl⟩
 | (i,x)::r,k,cs,h=>by
  simp only[Ct]at h;split at h
  .rename_i v hb hx;split at h
   .rename_i c cs' hc hr;injection h with h;subst h;obtain⟨vs,h1,h2,h3,h4⟩:=FB S r (k+1) hr;refine⟨v.den κ::vs,by simp[List.mapM_cons,eD hx,h1],?_,by simp[h3],?_⟩
    .simp only[List.map_cons,List.length_cons,List.range'_succ,Nat.eq_of_beq_eq_true hb];rw[h2]
    .simp[h4,lK S.NZ hc]
   .cases h
  .cases h
theorem eL(bZ:eu P tt){d:Option Nat}{t ps af g ty}{dF n:Nat}{parts z}cs l(hp:Ct env its 0 parts.toList=some cs)(hc:Q9 its sz R cs l)
 (hz:(jU E tt).bind (·.zero)=some z) (hT:(EL tt ty E sz dF && !its.any Item.ow)=true) (hn:(Nat.beq cs.length n&&(Nat.beq l.length n&&((cs.all fun c=>Nat.beq c.length sz)&&Nat.ble (n*sz) 16777216)))=true) :
 Eff P N n0 fx env its ⟨d,.buildSlice ty n parts,t,ps,af,g⟩ (some (vs its.length)) (its++[.o sz E R l]):=fun κ w S a zw=>by
 simp only[Bool.and_eq_true,Bool.not_eq_true',Nat.beq_eq]at hT hn;obtain⟨hT,how⟩:=hT;obtain⟨hn1,hn2,hn3,hn4⟩:=hn;obtain⟨hu,_,hpos,hs⟩:=lX bZ hT;obtain⟨parts⟩:=parts;obtain⟨vs,h1,h2,h3,h4⟩:=FB S parts 0 hp;have hz':∀w,(zeroValue E).run P w=.ok z w:=by
  cases ht:jU E tt with
  | none=>simp[ht]at hz
  | some ti=>
    simp[ht]at hz;exact(bZ.get ht).zero z hz
 have hlen:vs.length=n:=by
  have:=congrArg List.length h4;simp at this;omega
 have hvs:vs.all (fun v=>Nat.beq v.cells.size sz)=true:=by
  rw[List.all_eq_true];intro v hv;have h5:v.cells.toList∈cs.map (fun c=>c.map (Cell.den κ)):=by rw[<-h4];exact List.mem_map_of_mem hv
  obtain⟨c,hc1,hc2⟩:=List.mem_map.1 h5;rw[List.all_eq_true]at hn3;have h6:=hn3 c hc1;simp only[Nat.beq_eq]at h6 |-;have:=congrArg List.length hc2;simp at this;omega
 exact Does.qV (D5 hu hs hz' hpos hlen hn2 hn4 h2 h1 hvs (by rw[h4]) (Q9.els S cs l hc hn3) S.ctx) zw fun v w' hk=>FE S how hk
theorem qU(S:St n0 fx env its κ w)(how:its.any Item.ow=false){i n c A l l'}(hi:its[i]?=some (.o sz E R l))(hc:κ[i]?=some (.r A n c))(hn:n=l.length)(hl:l'.length=l.length){w'}(h:qB sz E R fx.U0 fx.X0 fx.w0 (dL its κ) w A c l' w') :
 St n0 fx env (its.set i (.o sz E R l')) κ w':=by
 obtain⟨ho,C,Tr⟩:=h;have hil:i<its.length:=(List.getElem?_eq_some_iff.1 hi).1;have hL:dL (its.set i (.o sz E R l')) κ=dL its κ:=by
  apply List.ext_getElem?;intro j;by_cases hj:j=i
  .subst hj;have h1:(its.set j (.o sz E R l'))[j]?=some (.o sz E R l'):=by rw[List.getElem?_set_self hil]
   rw[bU h1 hc,bU hi hc];rfl
  .unfold dL;rw[List.getElem?_zipWith,List.getElem?_zipWith,List.getElem?_set_ne (fun e=>hj e.symm)]
 have key:=S.next (env':=env) (aR:=its.set i (.o sz E R l')) (κx:=[]) (w':=w') (X:=[ob A]) (fun j=>j=i) (by simp[S.len]) (by simpa using S.sj)
  (by
    unfold oP;rw[List.length_set,List.all_eq_true];intro it hit;have hs:=S.Fe;unfold oP at hs;rw[List.all_eq_true]at hs;rcases List.mem_or_eq_of_mem_set hit with h|h
    .exact hs _ h
    .subst h;rfl)
  (by rw[List.append_nil,hL];exact C) (by rw[List.append_nil,hL];exact Tr)
  (fun j it hj hne hit=>by
    rw[List.getElem?_set_ne (fun e=>hne e.symm)]at hit;refine⟨hit,Hy how _ (List.mem_of_getElem? hit),fun c b' hc' hb' hm=>?_⟩;rw[List.mem_singleton]at hm;have h1:=bU hit hc';rw[hb']at h1;have h2:=bU hi hc;simp only[iM]at h2;rw[<-hm]at h2;exact S.ctx.sep j i b' hne h1 h2)
  (fun j it c' hj hit hc'=>by
    rw[List.append_nil]at hc';rcases hj with hj|rfl
    .have:=(List.getElem?_eq_some_iff.1 hit).1;simp only[List.length_set]at this;omega
    .rw[List.getElem?_set_self hil]at hit;injection hit with hit;subst hit;rw[hc]at hc';injection hc' with hc';subst hc';rw[List.append_nil,hL];exact⟨by omega,ho⟩)
 rwa [List.append_nil]at key
theorem UO(bZ:eu P tt){d:Option Nat}{t ps af g ty mF x y dF i l m v}(hx:jN env x=some (vs i))(hi:its[i]?=some (.o 1 E R l))(hy:jN env y=some v)(hm:Sx its 1 R m v)(hT:(EL tt ty E 1 dF && !its.any Item.ow)=true) :
 Eff P N n0 fx env its ⟨d,.call {callee:=.builtin .copy,args:=#[x,y],argTypes:=#[ty,mF]},t,ps,af,g⟩ (some (vi .i64 (cO (len m) (len l)))) (its.set i (.o 1 E R (FY l m))):=fun κ w S a zw=>by
 simp only[Bool.and_eq_true,Bool.not_eq_true']at hT;obtain⟨hT,how⟩:=hT;obtain⟨hu,⟨info,z,EF,h1,h2,h3,h4⟩,hpos,_⟩:=lX bZ hT;obtain⟨c,hc,hok⟩:=S.iy hi;obtain⟨B,nb,cb,hv,hnb,hs⟩:=hm.src S;cases c with
 | r A n c=>
   obtain⟨hn,ho⟩:=hok;have hx':=eD (κ:=κ) hx;have hy':=eD (κ:=κ) hy;simp only[SV.den,Cell.den,hc]at hx';rw[hv]at hy';rw[hn]at hx';have hL:(dL its κ)[i]?=some (ob A):=bU hi hc;refine Does.qV (Xc hu (by rw[EF];simp[h1]) hx' hy' hnb ho hs hL S.ctx) zw ?_;rintro u w' ⟨rfl,ho'⟩;exact⟨[],fun x hx=>(by injection hx with hx;subst hx;rfl),by rw[List.append_nil];exact qU S how hi hc hn Iq ho'⟩
 | _=>exact hok.elim
def vD(env:bP)(l:Int):Option Operand->Option Int
 | none=>some l
 | some x=>match jN env x with
   | some (.c (.v (.int _ n)))=>some n
   | _=>none
theorem Dp(bZ:eu P tt){d:Option Nat}{t ps af g ty x lo hi' dF a b l l' v}(hx:jN env x=some v)(hv:(∃j,v=vs j/\its[j]?=some (.d sz R l))\/(v=vn/\l=[]))(hlo:vD env 0 lo=some a)(hhi:vD env (len l) hi'=some b)
 (hs:sub l a b=some l') (hT:EL tt ty E sz dF=true):Eff P N n0 fx env its ⟨d,.slice ty x lo hi' none,t,ps,af,g⟩ (some (vs its.length)) (its++[.d sz R l']):=fun κ w S ac zw=>by
 obtain⟨hu,_,hpos,hsz⟩:=lX bZ hT;have hsl:∃A n c,v.den κ=.slice A n c/\n=l.length/\Sl sz R (Mu fx.U0 (dL its κ)) w A c l:=by
  rcases hv with⟨j,rfl,hj⟩|⟨rfl,rfl⟩
  .obtain⟨c,hc,hok⟩:=S.iy hj;cases c with
   | r A n c=>exact⟨A,n,c,by simp[SV.den,Cell.den,hc],hok.1,hok.2⟩
   | _=>exact hok.elim
  .exact⟨none,0,0,rfl,rfl,Sl.Qd⟩
 obtain⟨A,n,c,h1,rfl,h3⟩:=hsl;have hx':=eD (κ:=κ) hx;rw[h1]at hx';have bnd:∀(q:Option Operand) (dflt r:Int),vD env dflt q=some r->∃qv,q.mapM (ev (fD κ env))=some qv/\((qv=none/\r=dflt)\/∃k,qv=some (.int k r)):=by
  intro q dflt r h;cases q with
  | none=>simp only[vD,Option.some.injEq]at h;exact⟨none,rfl,.inl ⟨rfl,h.symm⟩⟩
  | some x=>
    simp only[vD]at h;split at h
    .rename_i k n hx;injection h with h;subst h;exact⟨some (.int k n),by simp[eD hx,SV.den,Cell.den],.inr ⟨k,rfl⟩⟩
    .cases h
 obtain⟨J2,hl1,hl2⟩:=bnd lo 0 a hlo;obtain⟨hiv,hh1,hh2⟩:=bnd hi' (len l) b hhi;obtain⟨A',c',hrun,acw⟩:=RY (N:=N) hu hsz hx' hl1 hh1 hl2 hh2 h3 hs;refine .inl ⟨_,w,hrun ac zw,[.r A' l'.length c'],fun x hx=>?_,S.more rfl (ou (P:=fun(it:Item) (c:Conc)=>iM it c=none) rfl) rfl (ou (P:=fun(it:Item) (c:Conc)=>OK _ _ w it c) ⟨rfl,acw⟩)⟩;injection hx with hx;subst hx;simp only[SV.den,Cell.den];rw[List.getElem?_append_right (by rw[S.len];exact Nat.le_refl _),S.len];simp
end
theorem aac(bZ:eu P tt){d:Option Nat}{t ps af g}{src dst:TypeId}{x l v}(hx:jN env x=some v)(hm:Sx its 1 (dG .u8) l v)
 (hT:(match jU src tt,jU dst tt with
   | some ⟨.slice E,_,_,_,_⟩,some ⟨.string,_,_,_,_⟩=>(match jU E tt with
     | some ⟨.int .u8,_,_,_,_⟩=>true
     | _=>false)
   | _,_=>false)=true):Eff P N n0 fx env its ⟨d,.convert src dst x,t,ps,af,g⟩ (some (vt its.length)) (its++[.str (str l)]):=fun κ w S a zw=>by
 split at hT
 .rename_i E _ _ _ _ _ _ _ _ h1 h2;split at hT
  .rename_i h3;obtain⟨B,nb,cb,hv,hnb,hs⟩:=hm.src S;have hx':=eD (κ:=κ) hx;rw[hv]at hx';obtain⟨s,hr,hst⟩:=abv (P:=P) (N:=N) (l:=fD κ env) (w:=w) (d:=d) (t:=t) (ps:=ps) (af:=af) (g:=g) (bZ.get h1).und (bZ.get h3).und (bZ.get h2).und hx' hnb hs;refine .inl ⟨_,w,hr a zw,[.s s],fun x hx=>?_,S.more rfl (ou (P:=fun(it:Item) (c:Conc)=>iM it c=none) rfl) rfl (ou (P:=fun(it:Item) (c:Conc)=>OK _ _ w it c) hst)⟩;injection hx with hx;subst hx;simp only[SV.den,Cell.den];rw[List.getElem?_append_right (by rw[S.len];exact Nat.le_refl _),S.len];simp
  .cases hT
 .cases hT
end
end V
end Go.Proofs.YtbgfhaahhdnogaaGreat
