/- What each operation on memory does: to the blocks that the c -/
import Derived.Test.YtbgfhaahhdnogaaGreatMem
import Derived.Laws.BytesString
import Derived.Laws.Slices
namespace Go.Proofs.YtbgfhaahhdnogaaGreat
namespace V
section
variable {P:Program} {px:Value->World->Prop} {N:Nat} {l:Env} {d:Option Nat} {t:TypeId} {ps:String} {af:Array Edge} {g:Option (Nat×Bool)}
variable {α:Type} {U0:Nat->Prop} {X0:List (Option Nat)} {w0 w:World} {L:List (Option Nat)}
def IK(U0:Nat->Prop)(X0:List (Option Nat))(w0:World)(L:List (Option Nat))(w:World)(T:TypeId)(cs:List Value)(v:Value)(w':World):Prop:=
 ∃b,v=.pointer (some ⟨b,0,none⟩)/\IY w' b T cs/\Ctx U0 X0 w0 (some b::L) w'/\TR U0 L w (some b::L) w' []
theorem FI(C:Ctx U0 X0 w0 L w)T cs:IK U0 X0 w0 L w T cs (.pointer (some ⟨w.heap.size,0,none⟩)) (w.alloc (.cells cs.toArray T)):=
 ⟨w.heap.size,rfl,heap_alloc_new w _,(C.alloc _).1,(C.alloc _).2⟩
theorem aa9{E x v cs}(hx:ev l x=some v)(hcs:v.cells=cs.toArray)(C:Ctx U0 X0 w0 L w) :
 K7 P N l ⟨d,.box E x,t,ps,af,g⟩ w (IK U0 X0 w0 L w E cs):=fun a ha=>by
 refine⟨_,_,?_,FI C E cs⟩;rw[<-hcs];simp only[execOp,ha.ev hx,Instr.box,newVar,newRow,Sem.run_bind,run_newObj,Result.andThen_ok,Sem.run_pure];rfl
theorem Sn{E z cs}(hz:∀w,(zeroValue E).run P w=.ok z w)(hcs:z.cells=cs.toArray)(C:Ctx U0 X0 w0 L w) :
 K7 P N l ⟨d,.alloc E,t,ps,af,g⟩ w (IK U0 X0 w0 L w E cs):=fun a ha=>by
 refine⟨_,_,?_,FI C E cs⟩;rw[<-hcs];simp only[execOp,Instr.alloc,hz,newVar,newRow,Sem.run_bind,run_newObj,Result.andThen_ok,Sem.run_pure];rfl
theorem yx{ty ad v}(h1:∀w,(isAgg ty).run P w=.ok false w)(hc:w.cell? ad=some v):(Instr.loadAt ty (.pointer (some ad))).run P w=.ok v w:=by
 simp[Instr.loadAt,Instr.sureAddr,loadVar,h1,hc]
theorem yw{ty ad}{vs:List Value}{n}(h1:∀w,(isAgg ty).run P w=.ok true w)(h2:∀w,(sizeOf ty).run P w=.ok n w)(hn:vs.length=n)(hc:∀j v,vs[j]?=some v->w.cell? (ad.add j)=some v) :
 (Instr.loadAt ty (.pointer (some ad))).run P w=.ok (.agg vs.toArray) w:=by
 subst hn;simp[Instr.loadAt,Instr.sureAddr,loadVar,h1,h2,run_loadCells_list w ad vs hc]
theorem add_lit b o n:(⟨b,o,none⟩:Addr).add n=⟨b,o+n,none⟩:=by unfold Addr.add;split<;>simp_all
theorem F3{b o n T cs vs}(hb:IY w b T cs)(hv:(cs.drop o).take n=vs):∀j v,vs[j]?=some v->w.cell? ((⟨b,o,none⟩:Addr).add j)=some v:=fun j v h=>by
 subst hv;rw[add_lit,hb.cell];rw[List.getElem?_take]at h;split at h
 .rwa [List.getElem?_drop]at h
 .cases h
theorem JB{ty x b o T cs v}(h1:∀w,(isAgg ty).run P w=.ok false w)(hx:ev l x=some (.pointer (some ⟨b,o,none⟩)))(hb:IY w b T cs)(hv:cs[o]?=some v) :
 dQ P N l ⟨d,.load ty x,t,ps,af,g⟩ w v:=fun a ha=>by
 simp only[execOp,ha.ev hx,Sem.run_bind,yx h1 ((hb.cell o).trans hv),Result.andThen_ok];rfl
theorem Sq{ty x b o n T cs vs}(h1:∀w,(isAgg ty).run P w=.ok true w)(h2:∀w,(sizeOf ty).run P w=.ok n w)(hx:ev l x=some (.pointer (some ⟨b,o,none⟩)))(hb:IY w b T cs)(hv:(cs.drop o).take n=vs)(hn:vs.length=n) :
 dQ P N l ⟨d,.load ty x,t,ps,af,g⟩ w (.agg vs.toArray):=fun a ha=>by
 simp only[execOp,ha.ev hx,Sem.run_bind,yw h1 h2 hn (F3 hb hv),Result.andThen_ok];rfl
theorem Ph{ty x U ad o es v}(h1:∀w,(isAgg ty).run P w=.ok false w)(hx:ev l x=some (.pointer (some (ad.add o))))(hb:At U w ad es)(hv:es[o]?=some v) :
 dQ P N l ⟨d,.load ty x,t,ps,af,g⟩ w v:=fun a ha=>by
 simp only[execOp,ha.ev hx,Sem.run_bind,yx h1 (hb.2 o v hv),Result.andThen_ok];rfl
theorem Fh{ty x U ad o n es vs}(h1:∀w,(isAgg ty).run P w=.ok true w)(h2:∀w,(sizeOf ty).run P w=.ok n w)(hx:ev l x=some (.pointer (some (ad.add o))))(hb:At U w ad es)(hv:(es.drop o).take n=vs)(hn:vs.length=n) :
 dQ P N l ⟨d,.load ty x,t,ps,af,g⟩ w (.agg vs.toArray):=fun a ha=>by
 have hc:∀j v,vs[j]?=some v->w.cell? ((ad.add o).add j)=some v:=fun j v h=>by
  subst hv;rw[add_add];refine hb.2 _ v ?_;rw[List.getElem?_take]at h;split at h
  .rwa [List.getElem?_drop]at h
  .cases h
 simp only[execOp,ha.ev hx,Sem.run_bind,yw h1 h2 hn hc,Result.andThen_ok];rfl
theorem Sv{ty p b n T cs}(h1:∀w,(isAgg ty).run P w=.ok true w)(h2:∀w,(sizeOf ty).run P w=.ok n w)(hx:lk p l=some (.pointer (some ⟨b,0,none⟩)))(hb:IY w b T cs)(hn:cs.length=n):RV1 P N l w (.cell p ty) (.agg cs.toArray):=fun a ha=>by
 have hr:=yw (P:=P) (w:=w) (ad:=⟨b,0,none⟩) (vs:=cs) h1 h2 hn (F3 (o:=0) (n:=cs.length) hb (by simp));have hg:=ha.get p _ hx;simp only[Instr.loadAt,Instr.sureAddr,Sem.run_bind,Sem.run_pure,Result.andThen_ok]at hr;simp[yB,hg,asAddr,hr]
theorem Pt{ty p b T v}(h1:∀w,(isAgg ty).run P w=.ok false w)(hx:lk p l=some (.pointer (some ⟨b,0,none⟩)))(hb:IY w b T [v]):RV1 P N l w (.cell p ty) v:=fun a ha=>by
 have hr:=yx (P:=P) (w:=w) (ad:=⟨b,0,none⟩) (v:=v) h1 (hb.cell 0);have hg:=ha.get p _ hx;simp only[Instr.loadAt,Instr.sureAddr,Sem.run_bind,Sem.run_pure,Result.andThen_ok]at hr;simp[yB,hg,asAddr,hr]
def Stored(U0:Nat->Prop)(X0:List (Option Nat))(w0:World)(L:List (Option Nat))(w:World)(b:Nat)(T:TypeId)(cs:List Value)(w':World):Prop:=
 IY w' b T cs/\Ctx U0 X0 w0 L w'/\TR U0 L w L w' [some b]
def F9(P:Program)(N:Nat)(l:Env)(o:Oper)(w:World)(K:World->Prop):Prop:=∀a,Holds N l a->∃w',(execOp a.eval o).run P w=.ok .skip w'/\K w'
theorem WL.aa4{ops rest Kn op K}(hr:F9 P N l ⟨none,op,t,ps,af,none⟩ w K)
 (h:∀w',K w'->WL P px ops rest Kn N l w'):WL P px ops (⟨none,op,t,ps,af,none⟩::rest) Kn N l w:=fun a ha=>
 wpList_plain rfl fun K' hK=>by
  obtain⟨w',h1,h2⟩:=hr a ha;unfold Oper.wp;rw[h1];exact hK _ _ (h w' h2 _ ha)
theorem vX{L:List (Option Nat)}{i y}(h:L[i]?=some y):L.set i y=L:=by
 refine List.ext_getElem? fun k=>?_;rw[List.getElem?_set];split
 .rename_i e;subst e;obtain⟨hlt,he⟩:=List.getElem?_eq_some_iff.1 h;simp[hlt,he]
 .rfl
theorem Jt(C:Ctx U0 X0 w0 L w){i b:Nat}(hL:L[i]?=some (some b)){T cs cs'}(hb:IY w b T cs):Stored U0 X0 w0 L w b T cs' (w.setRow b cs'.toArray):=by
 have h:=C.turn (w':=w.setRow b cs'.toArray) (y:=some b) (L':=L) hL rfl rfl rfl (by simp) (fun k hk hne=>setRow_other w b k _ fun e=>hne (by rw[e])) (.inl rfl) (by
  exact vX hL)
 exact⟨setRow_heap w b _ _ T _ hb,h.1,h.2⟩
theorem qP(C:Ctx U0 X0 w0 L w){i b:Nat}(hL:L[i]?=some (some b)){T}{cs':List Value}{cur fz}(hb:w.heap[b]?=some (.cells cur T fz)):(w.setRow b cs'.toArray).heap[b]?=some (.cells cs'.toArray T fz)/\Ctx U0 X0 w0 L (w.setRow b cs'.toArray)/\TR U0 L w L (w.setRow b cs'.toArray) [some b]:=by
 have h:=C.turn (w':=w.setRow b cs'.toArray) (y:=some b) (L':=L) hL rfl rfl rfl (by simp) (fun k hk hne=>setRow_other w b k _ fun e=>hne (by rw[e])) (.inl rfl) (by
  exact vX hL)
 exact⟨setRow_heap w b _ _ T _ hb,h.1,h.2⟩
theorem fq P g o t fz:∀vs i cur w,w.heap[g]?=some (.cells cur t fz)->Fz t fz cur.size->o+i+vs.length<=cur.size->(∀v∈vs,v.oneCell'=true)->
 (storeCells ⟨g,o,none⟩ vs i).run P w=.ok () (w.setRow g (cur.toList.take (o+i)++vs++cur.toList.drop (o+i+vs.length)).toArray)
 | [],i,cur,w,hg,_,_,_=>by
   simp only[storeCells,List.append_nil,List.length_nil,Nat.add_zero,List.take_append_drop,Array.toArray_toList];rw[setRow_self w g cur t fz hg];rfl
 | v::rest,i,cur,w,hg,hfz,hl,h1=>by
   have hi:o+i<cur.size:=by simp at hl;omega
   have hadd:(⟨g,o,none⟩:Addr).add i=⟨g,o+i,none⟩:=by unfold Addr.add;split<;>simp_all
   have hcell:w.cell? ⟨g,o+i,none⟩=some cur[o+i]:=by simp[World.cell?,hg,hi]
   have hfro:w.frozen? ⟨g,o+i,none⟩=false:=by
    rcases hfz with rfl|⟨hfz,_⟩
    .simp[World.frozen?,hg]
    .obtain⟨lo,hi'⟩:=fz;simp only[World.frozen?,hg,Bool.and_eq_false_iff,decide_eq_false_iff_not];left;simp only at hfz;omega
   have hst:(store ((⟨g,o,none⟩:Addr).add i) v).run P w=.ok () (w.setRow g (cur.setIfInBounds (o+i) v)):=by
    rw[hadd,run_store P w _ v _ (h1 v (by simp)),hcell];simp[hfro,setCell_eq_setRow w g (o+i) cur t fz v hg]
   have ih:=fq P g o t fz rest (i+1) (cur.setIfInBounds (o+i) v) (w.setRow g (cur.setIfInBounds (o+i) v)) (setRow_heap w g cur _ t _ hg) (by simpa using hfz) (by simp at hl |-;omega) (fun x hx=>h1 x (by simp[hx]));simp only[storeCells,Sem.run_bind,hst,Result.andThen_ok,ih,setRow_setRow];congr 3;have e:=list_seg_step cur.toList (o+i) v rest (by simp at hl |-;omega);simpa [Array.toList_setIfInBounds,Nat.add_assoc]using e
theorem JE{ty x y}{b o i n:Nat}{T v cs vs cs'}(h2:∀w,(sizeOf ty).run P w=.ok n w)(hx:ev l x=some (.pointer (some ⟨b,o,none⟩)))(hy:ev l y=some v)(hvs:v.cells=vs.toArray)(hn:vs.length=n)
 (h1:vs.all (·.oneCell')=true) (hb:IY w b T cs) (hL:L[i]?=some (some b)) (C:Ctx U0 X0 w0 L w) (hle:Nat.ble (o+vs.length) cs.length=true) (hcs:cs.take o++vs++cs.drop (o+vs.length)=cs') :
 F9 P N l ⟨none,.store ty x y,t,ps,af,g⟩ w (Stored U0 X0 w0 L w b T cs'):=fun a ha=>by
 refine⟨w.setRow b cs'.toArray,?_,Jt C hL hb⟩;have hst:=run_storeCells_at P b o T vs 0 cs.toArray w hb (by simpa using Nat.le_of_ble_eq_true hle) (by simpa using h1);simp only[Nat.add_zero]at hst;simp only[execOp,ha.ev hx,ha.ev hy,Instr.storeAt,Instr.sureAddr,storeVar,Sem.run_bind,Sem.run_pure,Result.andThen_ok,h2,hvs,List.size_toArray,hn];simp[hst,hcs]
theorem pU{l i}{e:α}(h:idx l i=some e):0<=i/\i<l.length/\l[i.toNat]?=some e:=by
 unfold idx at h;split at h
 .rename_i h0;have:=(List.getElem?_eq_some_iff.1 h).1;exact⟨h0,by omega,h⟩
 .cases h
theorem run_indexAt{ty E sz k}{iv:Int}{ad}{n c:Nat}(hu:P.underlying ty=some (.slice E))(hs:∀w,(sizeOf E).run P w=.ok sz w)(h0:0<=iv)(h1:iv<n) :
 (Instr.indexAt ty (.slice (some ad) n c) (.int k iv)).run P w=.ok (.pointer (some (ad.add (iv.toNat*sz)))) w:=by
 simp[Instr.indexAt,asIntOf,run_underlying hu,h0,h1,hs]
theorem gU{E sz}{R:RT α}{U A c dt}(h:Own sz E R U w A c dt):(A=none/\c=0/\dt=[])\/
 ∃(b:Nat) (pre cur post:List Value) (fz:Nat×Nat),A=some ⟨b,pre.length,none⟩/\Fz E fz (pre++cur++post).length/\w.heap[b]?=some (.cells (pre++cur++post).toArray E fz)/\dt.length<=c/\c<=maxLen/\cur.length=c*sz/\fJ sz R U w (cur.take (dt.length*sz)) dt:=by
 obtain⟨xs,⟨hl,hr⟩,he⟩:=h;rcases hr with⟨hv,h0⟩|⟨b,pre,cap,cur,post,fz,hv,hfz,hg,h1,h2,h3,h4⟩
 .injection hv with hA _ hc;exact .inl ⟨hA,hc,List.eq_nil_of_length_eq_zero h0⟩
 .injection hv with hA hn hc;subst hc;subst h4;exact .inr ⟨b,pre,cur,post,fz,hA,hfz,hg,h1,h2,h3,he⟩
theorem Ma{E sz}{R:RT α}{U b c cur dt fz}(hfz:Fz E fz cur.size)(hg:w.heap[b]?=some (.cells cur E fz))(h1:dt.length<=c)(h2:c<=maxLen)(h3:cur.size=c*sz)(he:fJ sz R U w (cur.toList.take (dt.length*sz)) dt):Own sz E R U w (some ⟨b,0,none⟩) c dt:=by
 refine⟨_,⟨?_,.inr ⟨b,[],c,cur.toList,[],fz,rfl,by simpa using hfz,by simpa using hg,h1,h2,by simpa using h3,rfl⟩⟩,he⟩;rw[List.length_take,Array.length_toList (xs:=cur),h3];exact Nat.min_eq_left (Nat.mul_le_mul_right _ h1)
theorem oq{E sz}{R:RT α}{U b c}{pre cur post:List Value}{dt fz}(hfz:Fz E fz (pre++cur++post).length)(hg:w.heap[b]?=some (.cells (pre++cur++post).toArray E fz))(h1:dt.length<=c)(h2:c<=maxLen)(h3:cur.length=c*sz)(he:fJ sz R U w (cur.take (dt.length*sz)) dt):Own sz E R U w (some ⟨b,pre.length,none⟩) c dt:=by
 refine⟨_,⟨?_,.inr ⟨b,pre,c,cur,post,fz,rfl,hfz,hg,h1,h2,h3,rfl⟩⟩,he⟩;rw[List.length_take,h3];exact Nat.min_eq_left (Nat.mul_le_mul_right _ h1)
theorem aco{ty E sz x y k iv R U A c dt}{e:α}(hu:P.underlying ty=some (.slice E))(hs:∀w,(sizeOf E).run P w=.ok sz w)
 (hx:ev l x=some (.slice A dt.length c)) (hy:ev l y=some (.int k iv)) (h:Own sz E R U w A c dt) (hi:idx dt iv=some e) :
 ∃b o es,A=some ⟨b,o,none⟩/\(∀{d:Option Nat} {t} {ps} {af} {g} {w},dQ P N l ⟨d,.indexAddr ty x y,t,ps,af,g⟩ w (.pointer (some ⟨b,o+iv.toNat*sz,none⟩)))/\
  At (fun _=>False) w ⟨b,o+iv.toNat*sz,none⟩ es/\es.length=sz/\R U w es e:=by
 obtain⟨h0,h1,hi⟩:=pU hi;rcases gU h with⟨_,_,rfl⟩|⟨b,pre,cur,post,fz,rfl,hfz,hg,_,_,_,he⟩
 .simp at hi
 .obtain⟨e1,hl1,hr,hc⟩:=fJ.get dt _ iv.toNat e he hi;refine⟨b,pre.length,e1,rfl,fun {d t ps af g w} a ha=>?_,⟨fun h=>h,fun j u hu=>?_⟩,hl1,hr⟩
  .have:=run_indexAt (P:=P) (w:=w) (k:=k) (ad:=⟨b,pre.length,none⟩) (c:=c) hu hs h0 h1;rw[add_lit]at this;simp only[execOp,ha.ev hx,ha.ev hy,Sem.run_bind,this,Result.andThen_ok];rfl
  .have:=hc j u hu;rw[List.getElem?_take]at this;split at this
   .rw[add_lit];have hj:=(List.getElem?_eq_some_iff.1 this).1;simp only[World.cell?,hg];rw[<-this,<-uq (pre:=pre) (post:=post) hj,Nat.add_assoc];simp
   .cases this
theorem sF{l l' i}{e:α}(h:upd l i e=some l'):0<=i/\i<l.length/\l'=l.set i.toNat e:=by
 unfold upd at h;split at h
 .rename_i h0;simp only[Option.some.injEq]at h;exact⟨h0.1,h0.2,h.symm⟩
 .cases h
def qB(sz:Nat)(E:TypeId)(R:RT α)(U0:Nat->Prop)(X0:List (Option Nat))(w0:World)(L:List (Option Nat))(w:World)(A:Option Addr)(c:Nat)(dt:List α)(w':World):Prop:=
 Own sz E R (Mu U0 L) w' A c dt/\Ctx U0 X0 w0 L w'/\TR U0 L w L w' [ob A]
theorem LP{ty E sz x y iv}{b o i c:Nat}{v vs R}[dM R]{dt EG}{e:α}(h2:∀w,(sizeOf ty).run P w=.ok sz w)(hx:ev l x=some (.pointer (some ⟨b,o+iv.toNat*sz,none⟩)))(hy:ev l y=some v)(hvs:v.cells=vs.toArray)(hn:vs.length=sz)
 (h:Own sz E R (Mu U0 L) w (some ⟨b,o,none⟩) c dt) (hr:R (Mu U0 L) w vs e) (hi:upd dt iv e=some EG) (hL:L[i]?=some (some b)) (C:Ctx U0 X0 w0 L w) :
 F9 P N l ⟨none,.store ty x y,t,ps,af,g⟩ w (qB sz E R U0 X0 w0 L w (some ⟨b,o,none⟩) c EG):=fun a ha=>by
 obtain⟨h0,h1,rfl⟩:=sF hi;rcases gU h with⟨hA,_⟩|⟨b',pre,cur,post,fz,hA,hfz,hg,hle,hm,hsz,he⟩
 .cases hA
 .injection hA with hA;injection hA with hA hA2;subst hA;subst hA2;have hk:iv.toNat<dt.length:=by omega
  have hfit:iv.toNat*sz+vs.length<=cur.length:=by
   rw[hn,hsz,<-Nat.succ_mul];exact Nat.mul_le_mul_right _ (by omega)
  have h1c:=dM.one hr;have hst:=fq P b (pre.length+iv.toNat*sz) E fz vs 0 _ w hg (by simpa using hfz) (by simp only[List.size_toArray,List.length_append];omega) h1c;simp only[Nat.add_zero]at hst;rw[Ag hfit]at hst;obtain⟨k1,k2,k3⟩:=qP C hL hg (cs':=pre++(cur.take (iv.toNat*sz)++vs++cur.drop (iv.toNat*sz+vs.length))++post);refine⟨_,?_,?_,k2,k3⟩
  .simp only[execOp,ha.ev hx,ha.ev hy,Instr.storeAt,Instr.sureAddr,storeVar,Sem.run_bind,Sem.run_pure,Result.andThen_ok,h2,hvs,List.size_toArray,hn];simp[hst,hn]
  .have hlen:(cur.take (iv.toNat*sz)++vs++cur.drop (iv.toNat*sz+vs.length)).length=cur.length:=by
    simp only[List.length_append,List.length_take,List.length_drop];omega
   refine oq (by rw[Ah hlen];exact hfz) k1 (by simpa using hle) hm (by rw[hlen];exact hsz) ?_;have hset:=fJ.set dt _ iv.toNat e vs he hk hn hr;have e1:(cur.take (iv.toNat*sz)++vs++cur.drop (iv.toNat*sz+vs.length)).take ((dt.set iv.toNat e).length*sz) =
    (cur.take (dt.length*sz)).take (iv.toNat*sz)++vs++(cur.take (dt.length*sz)).drop (iv.toNat*sz+sz):=by
    have hk2:iv.toNat*sz+sz<=dt.length*sz:=by rw[<-Nat.succ_mul];exact Nat.mul_le_mul_right _ (by omega)
    rw[List.length_set,List.take_append,List.take_take,List.drop_take,List.length_append,List.length_take,hn];rw[Nat.min_eq_left (by omega:iv.toNat*sz<=dt.length*sz),Nat.min_eq_left (by omega:iv.toNat*sz<=cur.length)];rw[List.take_of_length_le (by simp only[List.length_append,List.length_take,hn];omega)]
   rw[e1];exact fJ.step k3.h1 k3.mono _ _ hset
def Src(sz:Nat)(R:RT α)(U:Nat->Prop)(w:World)(A:Option Addr)(dt:List α):Prop:=∃es,fJ sz R U w es dt/\∀j u,es[j]?=some u->∃ad,A=some ad/\w.cell? (ad.add j)=some u
theorem Sl.src{sz}{R:RT α}{U A c dt}(h:Sl sz R U w A c dt):Src sz R U w A dt:=by
 obtain⟨_,_,es,he,hm⟩:=h;exact⟨es,he,fun j u hu=>let ⟨ad,h1,_,h3⟩:=hm j u hu;⟨ad,h1,h3⟩⟩
theorem Own.src{sz E}{R:RT α}{U A c dt}(h:Own sz E R U w A c dt):Src sz R U w A dt:=by
 obtain⟨xs,hown,he⟩:=h;refine⟨xs,he,fun j u hu=>?_⟩;rcases hown.2 with⟨hv,h0⟩|⟨g,pre,cap,cur,post,fz,hv,_⟩
 .have:xs=[]:=List.eq_nil_of_length_eq_zero (by rw[hown.1,h0];simp);subst this;simp at hu
 .injection hv with hA;subst hA;exact⟨_,rfl,hown.cells rfl j u hu⟩
def vI(sz:Nat)(E:TypeId)(R:RT α)(U0:Nat->Prop)(X0:List (Option Nat))(w0:World)(L:List (Option Nat))(w:World)(X:List (Option Nat))(LL:Option Nat->List (Option Nat))(dt:List α)(v:Value)(w':World):Prop:=
 ∃A c,v=.slice A dt.length c/\Own sz E R (Mu U0 (LL (ob A))) w' A c dt/\Ctx U0 X0 w0 (LL (ob A)) w'/\TR U0 L w (LL (ob A)) w' X
theorem gV A n c:Value.ownBlock (.slice A n c)=ob A:=by cases A<;>rfl
theorem VA{dF}{l m l':List α}(h:app dF l m=some l'):(l.length+m.length)*dF<=140737488355328/\l.length+m.length<=9223372036854775807/\l'=l++m:=by
 unfold app at h;split at h
 .rename_i h0;simp only[Option.some.injEq]at h;exact⟨h0.1,h0.2,h.symm⟩
 .cases h
theorem wz w t ty e i z size bytes(ht:P.underlying t=some (.slice e))(hi:P.info? e=some i)(hz:i.zero=some z)
 (hsize:i.size=size) (hby:i.bytes=bytes) (hzs:z.cells.size=size) (hsz:0<size) v n xs (hown:rO w e size v n xs)
 a (m c) news (hl:news.length=m*size) (hnews:∀j u,news[j]?=some u->w.cell? (a.add j)=some u) (h1:∀u∈news,u.oneCell'=true)
 (h63:n+m<=maxLen) (hbytes:(n+m)*bytes<=140737488355328) :
 ∃v' w',(Builtin.append_ #[t,t] ty #[v,.slice (some a) m c]).run P w=.ok v' w'/\rO w' e size v' (n+m) (xs++news)/\w.grownBy w' v.ownBlock/\(v'.ownBlock=v.ownBlock\/v'.ownBlock=some w.heap.size):=by
 rcases hown.2 with⟨hv,h0⟩|⟨g,pre,cap,cur,post,fz,hv,hfz,hg,hnc,hcm,hcs,htake⟩
 .obtain⟨v',w',g1,g2,g3,_,g5⟩:=run_append_own_at (P:=P) w 0 t ty e i z size bytes ht hi hz hsize hby hzs hsz v n xs ⟨hown.1,.inl ⟨hv,h0⟩⟩ a m c news hl hnews h1 h63 hbytes (Nat.zero_le _);exact⟨v',w',g1,Tt g2,g3,g5⟩
 .subst hsize;subst hby;subst hv;have hsmall:n+m<=9223372036854775807:=by simp only[maxLen]at h63;omega
  have hlen:(xs++news).length=(n+m)*i.size:=by rw[List.length_append,hown.1,hl,Nat.add_mul]
  by_cases hroom:n+m<=cap
  .have hfit:n*i.size+news.length<=cur.length:=by rw[hl,hcs,<-Nat.add_mul];exact Nat.mul_le_mul_right _ hroom
   have hf:=run_firstCells_some (P:=P) w i.size m a m c news hl hnews;have hst:=fq P g (pre.length+n*i.size) e fz news 0 _ w hg (by simpa using hfz) (by simp only[List.size_toArray,List.length_append];omega) h1;simp only[Nat.add_zero]at hst;rw[Ag hfit]at hst;have hr:(Builtin.append_ #[t,t] ty #[.slice (some ⟨g,pre.length,none⟩) n cap,.slice (some a) m c]).run P w =
    .ok (.slice (some ⟨g,pre.length,none⟩) (n+m) cap) (w.setRow g (pre++(cur.take (n*i.size)++news++cur.drop (n*i.size+news.length))++post).toArray):=by
    have e0:(⟨g,pre.length,none⟩:Addr).add (n*i.size)=⟨g,pre.length+n*i.size,none⟩:=Addr.add_lit ..;simp[Builtin.append_,run_underlying ht,sizeOf,typeInfo,hi,Builtin.lenOf,hroom,hf,e0,hst]
   have hszr:(cur.take (n*i.size)++news++cur.drop (n*i.size+news.length)).length=cur.length:=by
    simp only[List.length_append,List.length_take,List.length_drop];omega
   refine⟨_,_,hr,⟨hlen,.inr ⟨g,pre,cap,_,post,fz,rfl,by rw[Ah hszr];exact hfz,setRow_heap w g _ _ e _ hg,hroom,hcm,by rw[hszr];exact hcs,?_⟩⟩,⟨rfl,rfl,rfl,by simp,fun k _ hk=>setRow_other w g k _ (fun e=>hk (by simp[Value.ownBlock,e]))⟩,Or.inl rfl⟩;rw[htake,<-hlen];exact List.take_left
  .have holds:∀j u,xs[j]?=some u->w.cell? ((⟨g,pre.length,none⟩:Addr).add j)=some u:=hown.cells rfl;have hr:=run_append_grow (P:=P) w t ty e i z ht hi hz ⟨g,pre.length,none⟩ n cap xs hown.1 holds a m c news hl hnews (by omega) (by omega) (growslice_fits (by omega) hbytes);have hge:=grownCap_ge w (n+m) cap e;have hcm2:grownCap w (n+m) cap e<=maxLen:=grownCap_le_maxLen w (n+m) cap e h63;refine⟨_,_,hr,⟨hlen,.inr ⟨w.heap.size,[],_,Array.toList _,[],(0,0),rfl,.inl rfl,(heap_alloc_new w.drew _).trans (by simp only[List.nil_append,List.append_nil,Array.toArray_toList];rfl),hge,hcm2,?_,?_⟩⟩,⟨rfl,rfl,rfl,by simp,fun k hk _=>heap_alloc_old w.drew _ k hk⟩,Or.inr rfl⟩
   .simp only[Array.length_toList,Array.size_append,List.size_toArray,size_zeroCells,hzs,hown.1,hl,<-Nat.add_mul];congr 1;omega
   .simp only[Array.toList_append,List.append_assoc];rw[<-List.append_assoc,<-hlen];exact List.take_left
theorem Pf{ty E sz dF info z x y i}{R:RT α}[dM R]{A B c cb nb dt ds EG}(hu:P.underlying ty=some (.slice E))(hi:P.info? E=some info)(hz:info.zero=some z)(hsz:info.size=sz)(hby:info.bytes=dF)(hzs:z.cells.size=sz)(hpos:Nat.blt 0 sz=true)
 (hx:ev l x=some (.slice A dt.length c)) (hy:ev l y=some (.slice B nb cb)) (hnb:nb=ds.length) (h:Own sz E R (Mu U0 L) w A c dt) (hs:Src sz R (Mu U0 L) w B ds) (ha:app dF dt ds=some EG) (hL:L[i]?=some (ob A)) (C:Ctx U0 X0 w0 L w) :
 K7 P N l ⟨d,.call {callee:=.builtin .append,args:=#[x,y],argTypes:=#[ty,ty]},t,ps,af,g⟩ w (vI sz E R U0 X0 w0 L w [ob A] (L.set i) EG):=fun a zw=>by
 have hpos':0<sz:=by simpa [Nat.blt_eq]using hpos
 subst hnb;obtain⟨hb1,hb2,rfl⟩:=VA ha;obtain⟨xs,hown,he⟩:=h;obtain⟨es,hes,hm⟩:=hs;have hel:=fJ.length _ _ hes;have key:∃v' w',(Builtin.append_ #[ty,ty] t #[.slice A dt.length c,.slice B ds.length cb]).run P w=.ok v' w'/\rO w' E sz v' (dt.length+ds.length) (xs++es)/\w.grownBy w' (ob A)/\(v'.ownBlock=ob A\/v'.ownBlock=some w.heap.size):=by
  cases B with
  | none=>
    have h0:es=[]:=by
     cases es with
     | nil=>rfl
     | cons u es=>obtain⟨_,h,_⟩:=hm 0 u rfl;cases h
    subst h0;have hd0:ds=[]:=by
     cases ds with
     | nil=>rfl
     | cons e ds=>simp[Nat.succ_mul]at hel;omega
    subst hd0;refine⟨.slice A dt.length c,w,?_,by simpa using hown,⟨rfl,rfl,rfl,Nat.le_refl _,fun _ _ _=>rfl⟩,.inl (gV _ _ _)⟩;rcases hown.2 with⟨hv,h0⟩|⟨g',pre,cap,cur,post,fz,hv,_,_,hnc,_⟩
    .rw[hv];simp[Builtin.append_,run_underlying hu,sizeOf,typeInfo,hi,Builtin.lenOf,Builtin.firstCells]
    .injection hv with hA hn hc;subst hA;subst hc;simp[Builtin.append_,run_underlying hu,sizeOf,typeInfo,hi,Builtin.lenOf,Builtin.firstCells,hnc,storeCells]
  | some ad=>
    obtain⟨v',w',h1,h2,h3,h5⟩:=wz (P:=P) w ty t E info z sz dF hu hi hz hsz hby hzs hpos' _ _ xs hown ad ds.length cb es hel (fun j u hu=>by
     obtain⟨ad',h1,h2⟩:=hm j u hu;injection h1 with h1;subst h1;exact h2) (fJ.one _ _ hes) (by simp only[maxLen];omega) hb1
    rw[gV]at h3 h5;exact⟨v',w',h1,h2,h3,h5⟩
 obtain⟨v',w',hrun,ho,hg,Qq⟩:=key;have hform:∃A' c',v'=.slice A' (dt.length+ds.length) c':=by
  rcases ho.2 with⟨hv,h0⟩|⟨g',pre,cap,cur,post,fz,hv,_⟩
  .exact⟨none,0,by rw[hv,h0]⟩
  .exact⟨_,_,hv⟩
 obtain⟨A',c',rfl⟩:=hform;rw[gV]at Qq;have hlt:∀b,ob A'=some b->b<w'.heap.size:=fun b hb=>ho.lt b (by rw[gV];exact hb);have hT:=C.turn (w':=w') (y:=ob A') (L':=L.set i (ob A')) hL hg.os hg.tape hg.output hg.size (fun b hb hne=>hg.block b hb fun e=>hne e.symm) (by
  rcases Qq with e|e
  .exact .inl e
  .exact .inr (.inr ⟨e,hlt _ e⟩)) rfl
 refine⟨_,w',?_,A',c',by rw[List.length_append],⟨xs++es,by rw[List.length_append];exact ho,?_⟩,hT.1,hT.2⟩
 .simp only[execOp,resolve,invoke,builtin,Sem.run_bind,Sem.run_pure,Result.andThen_ok,List.map_toArray,List.map_cons,List.map_nil,zw.ev hx,zw.ev hy,hrun]
 .exact fJ.append _ _ _ _ (fJ.step hT.2.h1 hT.2.mono _ _ he) (fJ.step hT.2.h1 hT.2.mono _ _ hes)
theorem XY{dF}{z:α}{n l'}(h:mk dF z n=some l'):0<=n/\n*dF<=140737488355328/\n<=9223372036854775807/\l'=List.replicate n.toNat z:=by
 unfold mk at h;split at h
 .rename_i h0;simp only[Option.some.injEq]at h;exact⟨h0.1,h0.2.1,h0.2.2,h.symm⟩
 .cases h
theorem fJ.replicate{sz R U e}{x:α}(hl:e.length=sz)(hr:R U w e x):∀n,fJ sz R U w (List.replicate n e).flatten (List.replicate n x)
 | 0=>rfl
 | n+1=>⟨e,_,by simp[List.replicate_succ],hl,hr,fJ.replicate hl hr n⟩
theorem wP z n:(madeCells z.toArray (n*z.length)).toList=(List.replicate n z).flatten:=by
 have h:∀n k,((List.replicate n z).flatten)[k]?=if k<n*z.length then z[k%z.length]? else none:=by
  intro n
  induction n with
  | zero=>intro k;simp
  | succ n ih=>
    intro k;rw[List.replicate_succ,List.flatten_cons,List.getElem?_append];split
    .rename_i hk;rw[Nat.mod_eq_of_lt hk,if_pos (by rw[Nat.succ_mul];omega)]
    .rename_i hk;rw[ih,Nat.succ_mul];rcases Nat.eq_zero_or_pos z.length with h0|h0
     .simp[h0]
     .by_cases h2:k-z.length<n*z.length
      .rw[if_pos h2,if_pos (by omega)];rw[Nat.mod_eq_sub_mod (a:=k) (by omega)]
      .rw[if_neg h2,if_neg (by omega)]
 refine List.ext_getElem? fun k=>?_;rw[h];simp only[madeCells,Array.toList_map,Array.toList_range,List.getElem?_map,List.size_toArray];by_cases hk:k<n*z.length
 .have hz:0<z.length:=by
   rcases Nat.eq_zero_or_pos z.length with h0|h0
   .rw[h0]at hk;omega
   .exact h0
  have hm:=Nat.mod_lt k hz;simp[hk,hm]
 .simp[hk]
theorem Xb{ty E sz dF info z zs x y k k' n R}[dM R]{e:α}{dt}(hu:P.underlying ty=some (.slice E))(hi:P.info? E=some info)(hz:info.zero=some z)(hsz:info.size=sz)(hby:info.bytes=dF)(hzs:z.cells=zs.toArray)(hn:zs.length=sz)
 (hx:ev l x=some (.int k n)) (hy:ev l y=some (.int k' n)) (hr:∀U w,R U w zs e) (hm:mk dF e n=some dt) (C:Ctx U0 X0 w0 L w) :
 K7 P N l ⟨d,.makeSlice ty x y,t,ps,af,g⟩ w (vI sz E R U0 X0 w0 L w [] (fun y=>y::L) dt):=fun a ha=>by
 obtain⟨h0,h1,h2,rfl⟩:=XY hm;have hrun:=run_make (P:=P) w ty E info z hu hi hz k k' n n h0 (Int.le_refl _) (by rw[hby,Int.mul_comm];omega) h2;have hcells:(madeCells z.cells (n.toNat*info.size)).toList=(List.replicate n.toNat zs).flatten:=by rw[hzs,hsz,<-hn];exact wP _ _
 have hA:=C.alloc (.cells (madeCells z.cells (n.toNat*info.size)) E);refine⟨.slice (some ⟨w.heap.size,0,none⟩) n.toNat n.toNat,w.alloc (.cells (madeCells z.cells (n.toNat*info.size)) E),?_,some ⟨w.heap.size,0,none⟩,n.toNat,?_,?_,hA.1,hA.2⟩
 .simp only[execOp,ha.ev hx,ha.ev hy,Sem.run_bind,hrun,Result.andThen_ok];rfl
 .rw[List.length_replicate]
 .refine Ma (.inl rfl) (heap_alloc_new w _) (by simp) (by simp only[maxLen];omega) (by simp[size_madeCells,hsz]) ?_;rw[hcells,List.length_replicate];have he:=fJ.replicate (w:=w.alloc (.cells (madeCells z.cells (n.toNat*info.size)) E)) hn (hr (Mu U0 (some w.heap.size::L)) _) n.toNat;have:=fJ.length _ _ he;rw[List.length_replicate]at this;rw[List.take_of_length_le (by omega)];exact he
end
section
variable {P:Program} {px:Value->World->Prop} {N:Nat} {l:Env} {d:Option Nat} {t:TypeId} {ps:String} {af:Array Edge} {g:Option (Nat×Bool)}
variable {α:Type} {U0:Nat->Prop} {X0:List (Option Nat)} {w0 w:World} {L:List (Option Nat)}
def mZ(k:Nat):List Value->List (Nat×Value)
 | []=>[]
 | v::vs=>(k,v)::mZ (k+1) vs
theorem Fw v:∀j off (cs:Array Value),off+j+v.length<=cs.size->
 ((v.zipIdx j).foldl (fun cs (x:Value×Nat)=>cs.setIfInBounds (off+x.2) x.1) cs).toList=cs.toList.take (off+j)++v++cs.toList.drop (off+j+v.length):=by
 induction v with
 | nil=>intro j off cs h;simp
 | cons u v ih=>
   intro j off cs h;simp only[List.length_cons]at h;simp only[List.zipIdx_cons,List.foldl_cons];rw[ih (j+1) off _ (by simp;omega)];simp only[Array.toList_setIfInBounds];have h1:off+j<cs.toList.length:=by simp;omega
   rw[show off+(j+1)=off+j+1 from by omega,List.take_add_one,List.take_set_of_le (by omega),List.getElem?_set_self h1,List.drop_set_of_lt (by omega)];simp only[Option.toList_some,List.append_assoc,List.cons_append,List.nil_append,List.length_cons];rw[show off+j+1+v.length=off+j+(v.length+1)from by omega]
theorem KE sz:∀vs k cs,(∀v∈vs,v.cells.size=sz)->(k+vs.length)*sz<=cs.size->
 ∃cs',Instr.fill (fun i=>some (i*sz,sz)) cs (mZ k vs)=some cs'/\cs'.toList=cs.toList.take (k*sz)++(vs.map (·.cells.toList)).flatten++cs.toList.drop ((k+vs.length)*sz)
 | [],k,cs,_,_=>⟨cs,rfl,by simp⟩
 | v::vs,k,cs,hv,hle=>by
   have h1:=hv v (by simp);simp only[List.length_cons]at hle;have hle2:k*sz+sz<=cs.size:=by
    refine Nat.le_trans ?_ hle;rw[<-Nat.succ_mul];exact Nat.mul_le_mul_right _ (by omega)
   have hp:=Fw v.cells.toList 0 (k*sz) cs (by simp;omega);have hzi:v.cells.zipIdx.foldl (fun cs (c,j)=>cs.setIfInBounds (k*sz+j) c) cs=(v.cells.toList.zipIdx 0).foldl (fun cs (x:Value×Nat)=>cs.setIfInBounds (k*sz+x.2) x.1) cs:=by
    rw[<-Array.foldl_toList,Array.toList_zipIdx]
   obtain⟨cs',hf,ht⟩:=KE sz vs (k+1) (v.cells.zipIdx.foldl (fun cs (c,j)=>cs.setIfInBounds (k*sz+j) c) cs) (fun u hu=>hv u (by simp[hu])) (by
    rw[<-Array.length_toList,hzi,hp];simp only[List.length_append,List.length_take,List.length_drop,Array.length_toList];rw[show k+1+vs.length=k+(vs.length+1)from by omega];omega)
   refine⟨cs',?_,?_⟩
   .simp only[mZ,Instr.fill];rw[if_neg (by simp[h1];omega)];exact hf
   .rw[ht,hzi,hp];have h2:(k+1)*sz=k*sz+sz:=Nat.succ_mul k sz;have e1:(k+1+vs.length)*sz=k*sz+sz+vs.length*sz:=by rw[Nat.add_mul,h2]
    have hl:v.cells.toList.length=sz:=by simp[h1]
    simp only[List.map_cons,List.flatten_cons,List.length_cons,Nat.add_zero];rw[show k+(vs.length+1)=k+1+vs.length from by omega,h2,e1];have e2:(List.take (k*sz) cs.toList++v.cells.toList).length=k*sz+sz:=by simp[h1];omega
    rw[List.take_append_of_le_length (by omega),List.take_of_length_le (by omega),List.drop_append,e2,List.drop_of_length_le (by rw[e2];omega),List.drop_drop,hl];simp only[List.append_assoc,List.nil_append];congr 3;congr 1;omega
theorem acT{a}(ha:Holds N l a):∀(parts:List (Nat×Operand)) k vs,parts.mapM (fun p=>ev l p.2)=some vs->parts.map (·.1)=List.range' k parts.length->parts.map (fun p=>(p.1,a.eval p.2))=mZ k vs:=by
 intro parts
 induction parts with
 | nil=>intro k vs h _;simp at h;subst h;rfl
 | cons p ps ih=>
   intro k vs h hk;simp only[List.mapM_cons]at h;cases he:ev l p.2 with
   | none=>simp[he]at h
   | some v=>
     cases hr:ps.mapM (fun p=>ev l p.2)with
     | none=>simp[he,hr]at h
     | some r=>
       simp[he,hr]at h;subst h;simp only[List.map_cons,List.length_cons,List.range'_succ,List.cons.injEq]at hk;simp[ha.ev he,ih (k+1) r hr hk.2,mZ,hk.1]
theorem run_buildSlice{ty E sz n z vs es}(hu:P.underlying ty=some (.slice E))(hs:∀w,(sizeOf E).run P w=.ok sz w)(hz:∀w,(zeroValue E).run P w=.ok z w)(hn:vs.length=n)(hsmall:n*sz<=16777216)
 (hsz:∀v∈vs,v.cells.size=sz) (hes:(vs.map (·.cells.toList)).flatten=es):(Instr.buildSlice ty n (mZ 0 vs).toArray).run P w=.ok (.slice (some ⟨w.heap.size,0,none⟩) n n) (w.alloc (.cells es.toArray E)):=by
 have hrun:∀zc:Array Value,Instr.fill (fun i=>some (i*sz,sz)) ((Array.range (n*sz)).map (zc[· % zc.size]!)) (mZ 0 vs)=some es.toArray:=fun zc=>by
  obtain⟨cs',h1,h2⟩:=KE sz vs 0 ((Array.range (n*sz)).map (zc[· % zc.size]!)) hsz (by simp[hn]);rw[h1];congr 1;apply Array.ext';rw[h2,hes];simp[hn]
 have hbig:¬ (n*sz>2^24):=by
  rw[show(2:Nat)^24=16777216 from rfl];omega
 unfold Instr.buildSlice;simp only[Sem.run_bind,run_underlying hu,Result.andThen_ok,hs];rw[if_neg hbig];by_cases h0:n*sz=0
 .simp only[h0,if_true,Sem.run_bind,Sem.run_pure,Result.andThen_ok];have:=hrun #[];rw[h0]at this;simp only[this,Sem.run_bind,newRow,run_newObj,Sem.run_pure,Result.andThen_ok];rfl
 .simp only[h0,if_false,Sem.run_bind,hz,Sem.run_pure,Result.andThen_ok];simp only[hrun z.cells,Sem.run_bind,newRow,run_newObj,Sem.run_pure,Result.andThen_ok];rfl
theorem D5{ty E sz n z}{parts:List (Nat×Operand)}{vs es}{R:RT α}[dM R]{dt}(hu:P.underlying ty=some (.slice E))(hs:∀w,(sizeOf E).run P w=.ok sz w)(hz:∀w,(zeroValue E).run P w=.ok z w)(hpos:Nat.blt 0 sz=true)(hn:vs.length=n)(hn2:dt.length=n)(hsmall:Nat.ble (n*sz) 16777216=true)
 (hk:parts.map (·.1)=List.range' 0 parts.length) (hv:parts.mapM (fun p=>ev l p.2)=some vs) (hvs:vs.all (fun v=>Nat.beq v.cells.size sz)=true) (hes:(vs.map (·.cells.toList)).flatten=es) (hr:fJ sz R (Mu U0 L) w es dt) (C:Ctx U0 X0 w0 L w) :
 K7 P N l ⟨d,.buildSlice ty n parts.toArray,t,ps,af,g⟩ w (vI sz E R U0 X0 w0 L w [] (fun y=>y::L) dt):=fun a ha=>by
 have hp:=acT ha parts 0 vs hv hk;have hsz:∀v∈vs,v.cells.size=sz:=fun v hv'=>Nat.eq_of_beq_eq_true (List.all_eq_true.1 hvs v hv');have hle:n*sz<=16777216:=Nat.le_of_ble_eq_true hsmall;have hpos':0<sz:=by simpa [Nat.blt_eq]using hpos
 have acG:=fJ.length _ _ hr;rw[hn2]at acG;have hfun:(fun(x:Nat×Operand)=>match x with | (i,x)=>(i,a.eval x))=fun p=>(p.1,a.eval p.2):=rfl
 have hrun:=run_buildSlice (P:=P) (w:=w) hu hs hz hn hle hsz hes;have hT:=C.alloc (.cells es.toArray E);have hnle:n<=n*sz:=Nat.le_mul_of_pos_right n hpos';refine⟨.slice (some ⟨w.heap.size,0,none⟩) n n,w.alloc (.cells es.toArray E),?_,some ⟨w.heap.size,0,none⟩,n,by rw[hn2],?_,hT.1,hT.2⟩
 .simp only[execOp,List.map_toArray,hp,Sem.run_bind,hrun,Result.andThen_ok];rfl
 .refine Ma (.inl rfl) (heap_alloc_new w _) (by omega) (Nat.le_trans (Nat.le_trans hnle hle) (by unfold maxLen;decide)) (by simp[acG]) ?_;rw[hn2,List.take_of_length_le (by simp[acG])];exact fJ.step hT.2.h1 hT.2.mono _ _ hr
theorem Iq{l m:List α}:(FY l m).length=l.length:=by
 simp[FY];omega
theorem LM w dT sT ty elem g o dLen dCap a sLen sCap cur t fz(hfz:Fz t fz cur.size)cs
 (hu:P.underlying dT=some (.slice elem)) (hs:(P.info? elem).map (·.size)=some 1)
 (hg:w.heap[g]?=some (.cells cur t fz)) (hn:cs.length=Nat.min sLen dLen)
 (hsrc:∀j v,cs[j]?=some v->w.cell? (a.add j)=some v) (hfit:o+cs.length<=cur.size) (h1:∀v∈cs,v.oneCell'=true) :
 (Builtin.copy_ #[dT,sT] ty #[.slice (some ⟨g,o,none⟩) dLen dCap,.slice (some a) sLen sCap]).run P w =
   .ok (goInt cs.length) (w.setRow g (cur.toList.take o++cs++cur.toList.drop (o+cs.length)).toArray):=by
 have hl:=run_loadCells_list (P:=P) w a cs hsrc;have hst:=fq P g o t fz cs 0 cur w hg hfz (by simpa using hfit) h1;cases hq:P.info? elem with
 | none=>simp[hq]at hs
 | some i=>
   have hi:i.size=1:=by simpa [hq]using hs
   simp[Builtin.copy_,run_underlying hu,Builtin.lenOf,Builtin.firstCells,sizeOf,typeInfo,hq,hi,<-hn,hl,hst]
theorem Xc{ty mF E x y}{i nb cb c:Nat}{A B}{R:RT α}[dM R]{dt ds}(hu:P.underlying ty=some (.slice E))(hs:(P.info? E).map (·.size)=some 1)
 (hx:ev l x=some (.slice A dt.length c)) (hy:ev l y=some (.slice B nb cb)) (hnb:nb=ds.length) (h:Own 1 E R (Mu U0 L) w A c dt) (hsrc:Src 1 R (Mu U0 L) w B ds) (hL:L[i]?=some (ob A)) (C:Ctx U0 X0 w0 L w) :
 K7 P N l ⟨d,.call {callee:=.builtin .copy,args:=#[x,y],argTypes:=#[ty,mF]},t,ps,af,g⟩ w (fun v w'=>v=.int .i64 (cO (len ds) (len dt))/\qB 1 E R U0 X0 w0 L w A c (FY dt ds) w'):=fun a ha=>by
 subst hnb;obtain⟨es,he,hm⟩:=hsrc;have hel:=fJ.length _ _ he;rw[Nat.mul_one]at hel;have hmin:∀m n:Nat,cO (m:Int) (n:Int)=((Nat.min m n:Nat):Int):=fun m n=>by
  rw[show Nat.min m n=min m n from rfl];unfold cO;split<;>omega
 rcases gU h with⟨rfl,rfl,rfl⟩|⟨b,pre,cur,post,fz,rfl,hfz,hg,hle,hc,hsz,hed⟩
 .refine⟨_,w,?_,rfl,?_,?_,?_⟩
  .obtain⟨i0,hi0⟩:∃i0,P.info? E=some i0:=by
    cases hq:P.info? E with
    | none=>simp[hq]at hs
    | some i0=>exact⟨i0,rfl⟩
   have hf:(Builtin.firstCells i0.size 0 (.slice B ds.length cb)).run P w=.ok #[] w:=by
    cases B<;>simp[Builtin.firstCells,loadCells,loadCellsFrom]
   have h0:cO (len ds) (len ([]:List α))=0:=by
    show cO (ds.length:Int) ((0:Nat):Int)=0;rw[hmin];simp
   rw[h0];simp[execOp,resolve,invoke,builtin,ha.ev hx,ha.ev hy,Builtin.copy_,run_underlying hu,Builtin.lenOf,sizeOf,typeInfo,hi0,hf,goInt]
  .have:FY ([]:List α) ds=[]:=List.eq_nil_of_length_eq_zero (by rw[Iq];rfl);rw[this];exact h
  .exact C
  .exact⟨Nat.le_refl _,fun _ _ _=>rfl,fun b e=>(by simp[ob]at e),fun _ _ hM=>hM⟩
 .rw[Nat.mul_one]at hsz;have hk:Nat.min ds.length dt.length<=cur.length:=by rw[hsz];exact Nat.le_trans (Nat.min_le_right _ _) hle
  have hl:(es.take (Nat.min ds.length dt.length)).length=Nat.min ds.length dt.length:=by
   rw[List.length_take,hel];exact Nat.min_eq_left (Nat.min_le_left _ _)
  have hL':L[i]?=some (some b):=hL;have hput:=Ag (pre:=pre) (cur:=cur) (post:=post) (vs:=es.take (Nat.min ds.length dt.length)) (k:=0) (by rw[hl];omega);rw[Nat.add_zero,Nat.zero_add,hl]at hput;have hrun:(Builtin.copy_ #[ty,mF] t #[.slice (some ⟨b,pre.length,none⟩) dt.length c,.slice B ds.length cb]).run P w =
   .ok (goInt ((Nat.min ds.length dt.length:Nat):Int)) (w.setRow b (pre++(cur.take 0++es.take (Nat.min ds.length dt.length)++cur.drop (Nat.min ds.length dt.length))++post).toArray):=by
   cases B with
   | some ad=>
     have:=LM (P:=P) w ty mF t E b pre.length dt.length c ad ds.length cb _ E fz (by simpa using hfz) (es.take (Nat.min ds.length dt.length)) hu hs hg hl (fun j u hu=>by
      rw[List.getElem?_take]at hu;split at hu
      .obtain⟨ad',h1,h2⟩:=hm j u hu;injection h1 with h1;subst h1;exact h2
      .cases hu) (by rw[hl];simp only[List.size_toArray,List.length_append];omega) (fun u hu=>fJ.one _ _ he u (List.mem_of_mem_take hu))
     rw[hl]at this;rw[<-hput];exact this
   | none=>
     have h0:es=[]:=by
      cases es with
      | nil=>rfl
      | cons u es=>obtain⟨_,h,_⟩:=hm 0 u rfl;cases h
     subst h0;have hd:ds=[]:=List.eq_nil_of_length_eq_zero hel.symm;subst hd;obtain⟨i0,hi0⟩:∃i0,P.info? E=some i0:=by
      cases hq:P.info? E with
      | none=>simp[hq]at hs
      | some i0=>exact⟨i0,rfl⟩
     have Ud:w.setRow b (pre++cur++post).toArray=w:=setRow_self w b _ E fz hg;simp[Builtin.copy_,run_underlying hu,Builtin.lenOf,Builtin.firstCells,sizeOf,typeInfo,hi0,storeCells];simpa using Ud.symm
  obtain⟨k1,k2,k3⟩:=qP C hL' hg (cs':=pre++(cur.take 0++es.take (Nat.min ds.length dt.length)++cur.drop (Nat.min ds.length dt.length))++post);refine⟨_,_,?_,rfl,?_,k2,k3⟩
  .simp only[execOp,resolve,invoke,builtin,Sem.run_bind,Sem.run_pure,Result.andThen_ok,List.map_toArray,List.map_cons,List.map_nil,ha.ev hx,ha.ev hy,hrun,goInt,len,hmin]
  .have hlen:(cur.take 0++es.take (Nat.min ds.length dt.length)++cur.drop (Nat.min ds.length dt.length)).length=cur.length:=by
    rw[List.length_append,List.length_append,hl,List.length_drop];simp only[List.take_zero,List.length_nil];omega
   refine oq (by rw[Ah hlen];exact hfz) k1 (by rw[Iq];exact hle) hc (by rw[hlen,Nat.mul_one];exact hsz) ?_;have e1:(cur.take 0++es.take (Nat.min ds.length dt.length)++cur.drop (Nat.min ds.length dt.length)).take ((FY dt ds).length*1) =
    es.take (dt.length*1)++(cur.take (dt.length*1)).drop (ds.length*1):=by
    rw[Iq];simp only[List.take_zero,List.nil_append,Nat.mul_one];rw[List.take_append,hl,List.drop_take];rcases Nat.le_total ds.length dt.length with h|h
    .have hmn:Nat.min ds.length dt.length=ds.length:=Nat.min_eq_left h;rw[hmn,List.take_of_length_le (i:=ds.length) (by omega),List.take_of_length_le (i:=dt.length) (by omega)]
    .have hmn:Nat.min ds.length dt.length=dt.length:=Nat.min_eq_right h;rw[hmn,Nat.sub_self,List.take_zero,Nat.sub_eq_zero_of_le h,List.take_zero,List.take_take,Nat.min_self]
   rw[e1];refine fJ.step k3.h1 k3.mono _ _ ?_;exact fJ.append _ _ _ _ (fJ.take _ _ _ he) (fJ.drop _ _ _ hed)
theorem BM{l l':List α}{lo hi}(h:sub l lo hi=some l'):0<=lo/\lo<=hi/\hi<=l.length/\l'=(l.take hi.toNat).drop lo.toNat:=by
 unfold sub at h;split at h
 .rename_i h0;simp only[Option.some.injEq]at h;exact⟨h0.1,h0.2.1,h0.2.2,h.symm⟩
 .cases h
theorem RZ{ty E sz x lo hi J2 hiv a b A c}{dt EG:List α}(hu:P.underlying ty=some (.slice E))(hs:∀w,(sizeOf E).run P w=.ok sz w)
 (hx:ev l x=some (.slice A dt.length c)) (hlo:lo.mapM (ev l)=some J2) (hhi:hi.mapM (ev l)=some hiv) (hla:(J2=none/\a=0)\/∃k,J2=some (.int k a)) (hlb:(hiv=none/\b=len dt)\/∃k,hiv=some (.int k b))
 (hlc:dt.length<=c) (hcm:c<=maxLen) (hsub:sub dt a b=some EG) {d:Option Nat} {t} {ps} {af} {g} {w} :
 dQ P N l ⟨d,.slice ty x lo hi none,t,ps,af,g⟩ w (.slice (if c=a.toNat then A else A.map (·.add (a.toNat*sz))) EG.length (c-a.toNat)):=fun ac ha=>by
 obtain⟨h0,h1,h2,rfl⟩:=BM hsub;have hlen:(List.drop a.toNat (List.take b.toNat dt)).length=b.toNat-a.toNat:=by
  rw[List.length_drop,List.length_take,Nat.min_eq_left (by omega)]
 have e1:(some <$> lo).map id=some <$> lo:=by cases lo<;>rfl
 have hlo':lo.map ac.eval=J2:=by
  cases lo with
  | none=>simpa using hlo
  | some o=>
    simp only[Option.mapM_some]at hlo;cases hq:ev l o with
    | none=>simp[hq]at hlo
    | some v=>simp[hq]at hlo;subst hlo;simp[ha.ev hq]
 have hhi':hi.map ac.eval=hiv:=by
  cases hi with
  | none=>simpa using hhi
  | some o=>
    simp only[Option.mapM_some]at hhi;cases hq:ev l o with
    | none=>simp[hq]at hhi
    | some v=>simp[hq]at hhi;subst hhi;simp[ha.ev hq]
 have hb:(Instr.sliceBounds true dt.length c J2 hiv none).run P w=.ok (a.toNat,b.toNat,c) w:=by
  have hh:(match hiv,(none:Option Value)with
   | some v,some _=>Instr.sliceBound v c .slice3B
   | some v,none=>Instr.sliceBound v c .sliceAcap
   | none,none=>pure dt.length
   | none,some _=>stuck "" : Sem Nat).run P w=.ok b.toNat w:=by
   rcases hlb with⟨rfl,rfl⟩|⟨k',rfl⟩
   .simp[len]
   .exact run_sliceBound w k' b c _ (by omega) (by omega)
  have hl:(match J2 with
   | some v=>Instr.sliceBound v b.toNat .sliceB
   | none=>pure 0:Sem Nat).run P w=.ok a.toNat w:=by
   rcases hla with⟨rfl,rfl⟩|⟨k',rfl⟩
   .simp
   .exact run_sliceBound w k' a b.toNat _ (by omega) (by omega)
  unfold Instr.sliceBounds;rcases hlb with⟨rfl,rfl⟩|⟨k',rfl⟩<;>rcases hla with⟨rfl,rfl⟩|⟨k,rfl⟩<;>simp[len]at hh hl |-<;>simp[hh,hl]
 simp only[execOp,ha.ev hx,hlo',hhi',Option.map_none,Instr.sliceAt,Sem.run_bind,run_underlying hu,Result.andThen_ok,Instr.slice,hb,hs];rw[hlen];rfl
theorem RY{ty E sz x lo hi J2 hiv a b}{R:RT α}{U A c dt EG}(hu:P.underlying ty=some (.slice E))(hs:∀w,(sizeOf E).run P w=.ok sz w)
 (hx:ev l x=some (.slice A dt.length c)) (hlo:lo.mapM (ev l)=some J2) (hhi:hi.mapM (ev l)=some hiv) (hla:(J2=none/\a=0)\/∃k,J2=some (.int k a)) (hlb:(hiv=none/\b=len dt)\/∃k,hiv=some (.int k b))
 (h:Sl sz R U w A c dt) (hsub:sub dt a b=some EG) :
 ∃A' c',(∀{d:Option Nat} {t} {ps} {af} {g} {w},dQ P N l ⟨d,.slice ty x lo hi none,t,ps,af,g⟩ w (.slice A' EG.length c'))/\Sl sz R U w A' c' EG:=by
 have af0:=hsub;obtain⟨h0,h1,h2,rfl⟩:=BM hsub;obtain⟨hlc,hcm,es,he,hm⟩:=h;have hlen:(List.drop a.toNat (List.take b.toNat dt)).length=b.toNat-a.toNat:=by
  rw[List.length_drop,List.length_take,Nat.min_eq_left (by omega)]
 refine⟨if c=a.toNat then A else A.map (·.add (a.toNat*sz)),c-a.toNat,fun {d t ps af g w}=>RZ hu hs hx hlo hhi hla hlb hlc hcm af0,by omega,by omega,_,fJ.drop a.toNat _ _ (fJ.take b.toNat _ _ he),fun j u hj=>?_⟩
 .rw[List.getElem?_drop,List.getElem?_take]at hj;split at hj
  .obtain⟨ad,rfl,hn,hc⟩:=hm _ u hj;have hne:c≠a.toNat:=fun e=>by
    have h5:=(List.getElem?_eq_some_iff.1 hj).1;have h6:=fJ.length _ _ he;have h7:c*sz<=a.toNat*sz:=by rw[e];exact Nat.le_refl _
    have h8:dt.length*sz<=c*sz:=Nat.mul_le_mul_right _ hlc;omega
   rw[if_neg hne];exact⟨_,rfl,by rw[block_add];exact hn,by rw[add_add];exact hc⟩
  .cases hj
theorem XL{E sz}{R:RT α}{U A c dt EG a b}(h:Own sz E R U w A c dt)(hsub:sub dt a b=some EG) :
 Own sz E R U w (if c=a.toNat then A else A.map (·.add (a.toNat*sz))) (c-a.toNat) EG:=by
 obtain⟨h0,h1,h2,rfl⟩:=BM hsub;rcases gU h with⟨rfl,rfl,rfl⟩|⟨g,pre,cur,post,fz,rfl,hfz,hg,hle,hm,hsz,he⟩
 .have hb:b.toNat=0:=by simp at h2;omega
  have ha:a.toNat=0:=by omega
  simp only[ha,if_true];simpa using Own.nil
 .have hlen:((dt.take b.toNat).drop a.toNat).length=b.toNat-a.toNat:=by
   rw[List.length_drop,List.length_take,Nat.min_eq_left (by omega)]
  have hab:b.toNat<=dt.length:=by omega
  by_cases hc:c=a.toNat
  .rw[if_pos hc];have hd:(dt.take b.toNat).drop a.toNat=[]:=List.eq_nil_of_length_eq_zero (by rw[hlen];omega);rw[hd,hc,Nat.sub_self];refine oq (cur:=[]) (post:=cur++post) (fz:=fz) (by simpa using hfz) (by simpa using hg) (Nat.zero_le _) (Nat.zero_le _) (by simp) ?_;simp[fJ]
  .rw[if_neg hc];have hk:a.toNat*sz<=cur.length:=by rw[hsz];exact Nat.mul_le_mul_right _ (by omega)
   have hpl:(pre++cur.take (a.toNat*sz)).length=pre.length+a.toNat*sz:=by
    rw[List.length_append,List.length_take,Nat.min_eq_left hk]
   have heq:pre++cur.take (a.toNat*sz)++cur.drop (a.toNat*sz)++post=pre++cur++post:=by
    rw[List.append_assoc pre,List.take_append_drop]
   have hA:(some (⟨g,pre.length,none⟩:Addr)).map (·.add (a.toNat*sz))=some ⟨g,(pre++cur.take (a.toNat*sz)).length,none⟩:=by
    rw[hpl,Option.map_some,add_lit]
   rw[hA];refine oq (cur:=cur.drop (a.toNat*sz)) (post:=post) (fz:=fz) (by rw[heq];exact hfz) (by rw[heq];exact hg) (by rw[hlen];omega) (by omega) (by rw[List.length_drop,hsz,Nat.sub_mul]) ?_;have he2:=fJ.drop a.toNat _ _ (fJ.take b.toNat _ _ he);have e1:((cur.take (dt.length*sz)).take (b.toNat*sz)).drop (a.toNat*sz)=(cur.drop (a.toNat*sz)).take (((dt.take b.toNat).drop a.toNat).length*sz):=by
    rw[List.take_take,Nat.min_eq_left (Nat.mul_le_mul_right _ hab),List.drop_take,hlen,Nat.sub_mul]
   rw[<-e1];exact he2
theorem Xa{ty E sz i x lo hi J2 hiv a b}{R:RT α}[dM R]{A c dt EG}(hu:P.underlying ty=some (.slice E))(hs:∀w,(sizeOf E).run P w=.ok sz w)
 (hx:ev l x=some (.slice A dt.length c)) (hlo:lo.mapM (ev l)=some J2) (hhi:hi.mapM (ev l)=some hiv) (hla:(J2=none/\a=0)\/∃k,J2=some (.int k a)) (hlb:(hiv=none/\b=len dt)\/∃k,hiv=some (.int k b))
 (h:Own sz E R (Mu U0 L) w A c dt) (hsub:sub dt a b=some EG) (hL:L[i]?=some (ob A)) (C:Ctx U0 X0 w0 L w) :
 K7 P N l ⟨d,.slice ty x lo hi none,t,ps,af,g⟩ w (vI sz E R U0 X0 w0 L w [ob A] (L.set i) EG):=fun ac ha=>by
 have hcb:dt.length<=c/\c<=maxLen:=by
  rcases gU h with⟨_,rfl,rfl⟩|⟨_,_,_,_,_,_,_,_,h1,h2,_⟩
  .exact⟨Nat.le_refl _,Nat.zero_le _⟩
  .exact⟨h1,h2⟩
 have hrun:=RZ (N:=N) (d:=d) (t:=t) (ps:=ps) (af:=af) (g:=g) (w:=w) hu hs hx hlo hhi hla hlb hcb.1 hcb.2 hsub;have ho:=XL h hsub;have Qq:ob (if c=a.toNat then A else A.map (·.add (a.toNat*sz)))=ob A:=by
  split
  .rfl
  .cases A with
   | none=>rfl
   | some ad=>simp[ob,block_add]
 have hset:L.set i (ob A)=L:=vX hL;refine⟨_,w,hrun ac ha,_,_,rfl,?_,?_,?_⟩
 .rw[Qq,hset];exact ho
 .rw[Qq,hset];exact C
 .rw[Qq,hset];exact⟨Nat.le_refl _,fun _ _ _=>rfl,fun b e=>(by rw[List.mem_singleton]at e;rw[e];exact List.mem_of_getElem? hL),fun _ _ h=>h⟩
theorem toList_push(l:List Int):∀(s:ByteArray),(l.foldl (fun r n=>r.push (UInt8.ofNat n.toNat)) s).toList=s.toList++l.map (fun n=>UInt8.ofNat n.toNat):=by
 induction l with
 | nil=>intro s;simp
 | cons n l ih=>
   intro s;rw[List.foldl_cons,ih,Go.ByteArray.toList_eq,Go.ByteArray.toList_eq];simp[ByteArray.push,List.append_assoc]
theorem FU{U}:∀l es,fJ 1 (dG .u8) U w es l->es=l.map (Value.int .u8)
 | [],es,h=>h
 | x::xs,es,h=>by
   obtain⟨e1,e2,rfl,_,hr,ht⟩:=h;unfold dG at hr;subst hr;rw[FU xs e2 ht];rfl
theorem abv{src dst E x U A c n dt}(hu:P.underlying src=some (.slice E))(hE:P.underlying E=some (.int .u8))(hd:P.underlying dst=some .string)(hx:ev l x=some (.slice A n c))(hn:n=dt.length)(h:Src 1 (dG .u8) U w A dt) :
 ∃s,dQ P N l ⟨d,.convert src dst x,t,ps,af,g⟩ w (.string s)/\strOf s=str dt:=by
 subst hn;obtain⟨es,he,hm⟩:=h;have hes:=FU dt es he;have hel:=fJ.length _ _ he;rw[Nat.mul_one]at hel;cases A with
 | none=>
   have h0:es=[]:=by
    cases es with
    | nil=>rfl
    | cons u es=>obtain⟨_,h,_⟩:=hm 0 u rfl;cases h
   subst h0;have hd0:dt=[]:=List.eq_nil_of_length_eq_zero hel.symm;subst hd0;refine⟨ByteArray.empty,fun a ha=>?_,by rw[strOf,Go.ByteArray.toList_eq];rfl⟩;simp[execOp,ha.ev hx,convert,run_underlying hu,run_underlying hd,run_underlying hE,Conv.bytesToString]
 | some ad=>
   refine⟨dt.foldl (fun r n=>r.push (UInt8.ofNat n.toNat)) ByteArray.empty,fun a ha=>?_,?_⟩
   .have hl:(loadCells ad es.length).run P w=.ok es.toArray w:=run_loadCells_list w ad es (fun j u hu=>by
     obtain⟨ad',h1,h2⟩:=hm j u hu;injection h1 with h1;subst h1;exact h2)
    rw[hel,hes]at hl;have hb:=run_bytesToString (P:=P) w ad dt.length c dt hl;simp[execOp,ha.ev hx,convert,run_underlying hu,run_underlying hd,run_underlying hE,hb]
   .unfold strOf str;rw[toList_push];have:ByteArray.empty.toList=[]:=by rw[Go.ByteArray.toList_eq];rfl
    rw[this];simp
end
end V
end Go.Proofs.YtbgfhaahhdnogaaGreat
