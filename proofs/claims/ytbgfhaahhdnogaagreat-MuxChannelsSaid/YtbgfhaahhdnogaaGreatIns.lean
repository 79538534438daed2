/- slices.Insert of one element into a row of the call's own: p -/
import Derived.Test.YtbgfhaahhdnogaaGreatRow
import Derived.Test.YtbgfhaahhdnogaaGreatProg
import Derived.WalkKit
import Derived.Deep.RegionLaw
import Derived.Lib.Walk
import Derived.Lib.SliceRun
import Derived.Lib.AppendZerosOnto
import Derived.Lib.Overlaps
import Derived.Laws.Externs
import Derived.Below
import Derived.Shelf.RegionOpenPlain
namespace Go.Proofs.YtbgfhaahhdnogaaGreat
open Go.Lib Go.RowKit
namespace V
section
variable {P:Program}
theorem om w dT sT ty elem sz g o dLen dCap a sLen sCap cur t fz(hfz:Fz t fz cur.size)cs k
 (hu:P.underlying dT=some (.slice elem)) (hs:∀w,(sizeOf elem).run P w=.ok sz w)
 (hg:w.heap[g]?=some (.cells cur t fz)) (hk:Nat.min sLen dLen=k) (hn:cs.length=k*sz)
 (hsrc:∀j v,cs[j]?=some v->w.cell? (a.add j)=some v) (hfit:o+cs.length<=cur.size) (h1:∀v∈cs,v.oneCell'=true) :
 (Builtin.copy_ #[dT,sT] ty #[.slice (some ⟨g,o,none⟩) dLen dCap,.slice (some a) sLen sCap]).run P w =
   .ok (goInt k) (w.setRow g (cur.toList.take o++cs++cur.toList.drop (o+cs.length)).toArray):=by
 have hf:=run_firstCells_some (P:=P) w sz k a sLen sCap cs hn hsrc;have hst:=fq P g o t fz cs 0 cur w hg hfz (by simpa using hfit) h1;simp only[Nat.add_zero]at hst;simp[Builtin.copy_,run_underlying hu,Builtin.lenOf,hs,hk,hf,hst]
theorem wp_copy_run w{o:Oper}{a K Q}d s t t'
 (ho:o.op=.call {callee:=.builtin .copy,args:=#[d,s],argTypes:=#[t,t']}) (v u) (hd:a.eval d=v) (hs:a.eval s=u) {v'} {w'}
 (hr:(Builtin.copy_ #[t,t'] o.type #[v,u]).run P w=.ok v' w') (h:K (a.put o.dst v') w'):o.wp P a w K Q:=by
 unfold Oper.wp execOp;simp only[ho,resolve,invoke,builtin,Sem.run_bind,Sem.run_pure,Result.andThen_ok,List.map_toArray,List.map_cons,List.map_nil,hd,hs,hr];exact h
theorem wpList_copy_run w{ops rest o a Q}(hgd:o.guard=none)d s t t'
 (ho:o.op=.call {callee:=.builtin .copy,args:=#[d,s],argTypes:=#[t,t']}) (v u) (hd:a.eval d=v) (hs:a.eval s=u) {v'} {w'}
 (hr:(Builtin.copy_ #[t,t'] o.type #[v,u]).run P w=.ok v' w') (h:wpList P ops Q rest (a.put o.dst v') w'):wpList P ops Q (o::rest) a w:=
 wpList_plain hgd fun _ hK=>wp_copy_run w d s t t' ho v u hd hs hr (hK _ _ h)
theorem uK{ops o a w K Q E}
 (hg:o.guard=none) (d x) (dT sT) (hop:o.op=Op.call {callee:=Callee.builtin Builtin.copy,args:=#[d,x],argTypes:=#[dT,sT]})
 (v u) (hd:a.eval d=v) (hx:a.eval x=u) {v'} {w'} (hr:(Builtin.copy_ #[dT,sT] o.type #[v,u]).run P w=.ok v' w') (hK:K (a.put o.dst v') w') :
 if Region.wanted o (yielded ops a.tmps)=true then Oper.wp P o a w K Q else E:=by
 have hw:Region.wanted o (yielded ops a.tmps)=true:=by simp[Region.wanted,hg]
 rw[if_pos hw];unfold Oper.wp;simp[execOp,hop,resolve,invoke,builtin,hd,hx,hr,Result.andThen];exact hK
theorem O6{f α sz E}{R:RT α}[dM R]{l l' m v}
 (h:∀(U0:Nat->Prop) (w:World) (A B:Option Addr) (c d:Nat),Own sz E R (Mu U0 [ob A,ob B]) w A c l->Own sz E R (Mu U0 [ob A,ob B]) w B d m->Ctx U0 [ob A,ob B] w [ob A,ob B] w->
   Calls P f #[.slice A l.length c,v,.slice B m.length d] w fun e w'=>∃A' c',e=.returned (.slice A' l'.length c')/\Own sz E R (Mu U0 [ob A',ob B]) w' A' c' l'/\Ctx U0 [ob A,ob B] w [ob A',ob B] w') :
 Spec P f [vs 0,SV.c (.v v),vs 1] [.o sz E R l,.o sz E R m] (vs 2) [.e,.e,.o sz E R l']:=fun U0 κ w gl S=>by
 obtain⟨x,hx,hokx⟩:=S.iy (i:=0) rfl;obtain⟨y,hy,hoky⟩:=S.iy (i:=1) rfl;have hlen:κ.length=2:=S.len
 match κ,hlen,hx,hy,gl,S with
 | [c0,c1],_,hx,hy,gl,S=>
   simp at hx hy;subst hx;subst hy;cases c0 with
   | r A n c=>
     cases c1 with
     | r B k d=>
       obtain⟨hn,ho⟩:=hokx;obtain⟨hk,hp⟩:=hoky;subst hn;subst hk;have hC:Ctx U0 [ob A,ob B] w [ob A,ob B] w:=S.ctx;refine(h U0 w A B c d ho hp hC).mono ?_;rintro e w' ⟨A',c',rfl,ho',C⟩;have C1:Ctx U0 [ob A,ob B] w [ob A'] w':=C.pick [0] (by simp) rfl;refine⟨[.r A' l'.length c'],rfl,⟨rfl,rfl,by simp,rfl,rfl,C1.II.1.II.1,?_⟩⟩;intro i it cc h1 h2
       match i with
       | 0=>
         simp at h1 h2;subst h1;subst h2;exact trivial
       | 1=>
         simp at h1 h2;subst h1;subst h2;exact trivial
       | 2=>
         simp at h1 h2;subst h1;subst h2;refine⟨rfl,ho'.mu fun b hb=>?_⟩;rcases hb with hb|hb
         .exact .inl hb
         .have hb2:some b∈[none,none,ob A']:=hb;refine .inr ?_;simp at hb2 |-;exact .inl hb2
       | i+3=>simp at h1
     | _=>exact hoky.elim
   | _=>exact hokx.elim
end
end V
open Go.Lib Go.RowKit
namespace V
theorem zW b vb vo o m vc lb cb cur lV fz w(hvb:vb≠b)(hg:w.heap[b]?=some (.cells cur 91 fz))(h0:cur.size≠0)(hv:w.heap[vb]?=some (.cells lV 91 (0,0))) :
 (callFunc 196 #[.slice (some ⟨vb,vo,none⟩) m vc,.slice (some ⟨b,o,none⟩) lb cb]).run Tryz.prog w=.ok (.value (.bool false)) w:=by
 rw[run_callFunc_extern Tryz.func196 (by kernel_rfl) (by kernel_rfl) (by kernel_rfl) (e:=Extern.SlicesOverlaps.overlaps #[24,24] #[4]) (by kernel_rfl),
  Lib.run_overlaps_apart w 24 4 91 Tryz.underlying24 15 Tryz.sizeOf91 ⟨vb,vo,none⟩ ⟨b,o,none⟩ m vc lb cb hvb 91 91 lV.size cur.size (by simp[World.shape?,hv]) (by simp[World.shape?,hg]) h0 (by simp[World.frozen?,hv]) (by simp[World.frozen?,hv])]
 rfl
set_option maxHeartbeats 4000000 in
set_option maxRecDepth 1000000 in
theorem Kj b o n c i vb vo m vc cur lV fz vs w(hi:i<n)(hm:0<m)(hroom:n+m<=c)(hc63:c<=9223372036854775807)(hvb:vb≠b)
 (hg:w.heap[b]?=some (.cells cur 91 fz)) (hfz:Fz 91 fz cur.size) (hcs:o+(c*15)<=cur.size) (hv:w.heap[vb]?=some (.cells lV 91 (0,0))) (hvl:vs.length=(m*15)) (Rm:(lV.toList.drop vo).take (m*15)=vs) (h1:∀u∈(cur.toList.drop o).take (n*15),u.oneCell'=true) (h1v:∀u∈vs,u.oneCell'=true) :
 Calls Tryz.prog 192 #[.slice (some ⟨b,o,none⟩) n c,.int .i64 i,.slice (some ⟨vb,vo,none⟩) m vc] w fun e w'=>e=.returned (.slice (some ⟨b,o,none⟩) (n+m) c)/\(∃cur',w'.heap[b]?=some (.cells cur' 91 fz)/\cur'.size=cur.size/\cur'.toList.take o=cur.toList.take o/\(cur'.toList.drop o).take ((n+m)*15)=(cur.toList.drop o).take (i*15)++vs++((cur.toList.drop o).take (n*15)).drop (i*15))/\w.grownBy w' (some b):=by
 have hle:o+((n+m)*15)<=cur.size:=by omega
 obtain⟨mv,hmv⟩:∃mv,mv=((cur.toList.drop o).take (n*15)).drop (i*15):=⟨_,rfl⟩;have hml:mv.length=((n-i)*15):=by
  rw[hmv,List.length_drop,List.length_take,List.length_drop,Array.length_toList];omega
 obtain⟨c1,hc1⟩:∃c1,c1=(cur.toList.take (o+((i+m)*15))++mv++cur.toList.drop (o+((i+m)*15)+mv.length)).toArray:=⟨_,rfl⟩;have hs1:c1.size=cur.size:=by
  rw[hc1];simp only[List.size_toArray,List.length_append,List.length_take,List.length_drop,Array.length_toList];omega
 obtain⟨W1,hW1⟩:∃W1,W1=w.drew.setRow b c1:=⟨_,rfl⟩;have hb1:W1.heap[b]?=some (.cells c1 91 fz):=by rw[hW1];exact setRow_heap w.drew b cur c1 91 fz hg
 have hv1:W1.heap[vb]?=some (.cells lV 91 (0,0)):=by rw[hW1,setRow_other _ b vb _ hvb];exact hv
 have hcp1:∀ty dc sc,(Builtin.copy_ #[24,24] ty #[.slice (some ⟨b,o+((i+m)*15),none⟩) (n+m-(i+m)) dc,.slice (some ⟨b,o+(i*15),none⟩) (n+m-i) sc]).run Tryz.prog w.drew=.ok (goInt ((n-i:Nat):Int)) W1:=fun ty dc sc=>by
  rw[hW1,hc1];exact om w.drew 24 24 ty 91 15 b (o+((i+m)*15)) (n+m-(i+m)) dc ⟨b,o+(i*15),none⟩ (n+m-i) sc cur 91 fz hfz mv (n-i) Tryz.underlying24 Tryz.sizeOf91 hg (by simp only[Nat.min_def];split<;>omega) (by rw[hml]<;>omega) (fun j u hj=>by
   rw[hmv,List.getElem?_drop,List.getElem?_take]at hj;split at hj
   .rw[add_lit];show w.cell? ⟨b,_,none⟩=some u;rw[List.getElem?_drop,<-Nat.add_assoc]at hj;simp only[World.cell?,hg];simpa using hj
   .cases hj) (by rw[hml];omega) (fun u hu=>h1 u (by rw[hmv]at hu;exact List.mem_of_mem_drop hu))
 obtain⟨c2,hc2⟩:∃c2,c2=(c1.toList.take (o+(i*15))++vs++c1.toList.drop (o+(i*15)+vs.length)).toArray:=⟨_,rfl⟩;have hcp2:∀ty dc,(Builtin.copy_ #[24,24] ty #[.slice (some ⟨b,o+(i*15),none⟩) (n+m-i) dc,.slice (some ⟨vb,vo,none⟩) m vc]).run Tryz.prog W1=.ok (goInt m) (W1.setRow b c2):=fun ty dc=>by
  rw[hc2];exact om W1 24 24 ty 91 15 b (o+(i*15)) (n+m-i) dc ⟨vb,vo,none⟩ m vc c1 91 fz (by rw[hs1];exact hfz) vs m Tryz.underlying24 Tryz.sizeOf91 hb1 (by simp only[Nat.min_def];split<;>omega) (by rw[hvl]<;>omega) (fun j u hj=>by
   rw[<-Rm,List.getElem?_take]at hj;split at hj
   .rw[add_lit];rw[List.getElem?_drop]at hj;simp only[World.cell?,hv1];simpa using hj
   .cases hj) (by rw[hvl,hs1];omega) h1v
 have hov:∀lb cb,(callFunc 196 #[.slice (some ⟨vb,vo,none⟩) m vc,.slice (some ⟨b,o+((i+m)*15),none⟩) lb cb]).run Tryz.prog w=.ok (.value (.bool false)) w:=fun lb cb=>zW b vb vo _ m vc lb cb cur lV fz w hvb hg (by omega) hv;have X:Hid (W1=w.drew.setRow b c1/\c1=(cur.toList.take (o+((i+m)*15))++mv++cur.toList.drop (o+((i+m)*15)+mv.length)).toArray/\mv=((cur.toList.drop o).take (n*15)).drop (i*15)/\mv.length=((n-i)*15)/\c1.size=cur.size/\o+((n+m)*15)<=cur.size/\W1.heap[b]?=some (.cells c1 91 fz)/\c2=(c1.toList.take (o+(i*15))++vs++c1.toList.drop (o+(i*15)+vs.length)).toArray/\vs.length=(m*15)):=⟨hW1,hc1,hmv,hml,hs1,hle,hb1,hc2,hvl⟩;have hz1:¬ ((m:Int)=0):=by omega
 have hz2:¬ ((i:Int)=(n:Int)):=by omega
 have hw1:IntKind.i64.wrap ((i:Int)+(m:Int))=(i:Int)+(m:Int):=by rw[IntKind.wrap_i64];omega
 have hb1':(0:Int)<=(i:Int)+(m:Int):=by omega
 have hin:i<=n:=by omega
 have htn:((i:Int)+(m:Int)).toNat=i+m:=by omega
 have hb2:¬ (c=i+m):=by omega
 have hb3:(i:Int)<=(n:Int)+(m:Int):=by omega
 have hb4:¬ (c=i):=by omega
 clear hg hfz hcs hv hvl Rm h1 h1v hle hmv hml hc1 hs1 hW1 hb1 hv1 hc2;have mixed:Tryz.prog.follows Departure.mixedOrders=true:=by kernel_rfl
 go_enter Tryz.func192,Tryz.ntmps192
 go_wp2_with (simp only[hov])
 go_region_law_o (refine uK rfl _ _ 24 24 rfl _ _ (by simp[Act.eval,Act.put]) (by simp[Act.eval,Act.put]) (hcp1 _ _ _) ?_)
 go_wp2_with (at_builtin;refine wpList_copy_run _ rfl _ _ 24 24 rfl _ _ rfl rfl (hcp2 _ _) ?_)
 go_ret
 obtain⟨hW1,hc1,hmv,hml,hs1,hle,hb1,hc2,hvl⟩:=X.out;have hall:c2.toList.take (o+((n+m)*15))=cur.toList.take (o+(i*15))++vs++mv:=by
  rw[hc2];show List.take (o+((n+m)*15)) (c1.toList.take (o+(i*15))++vs++c1.toList.drop (o+(i*15)+vs.length))=_;rw[List.take_append,List.length_append,List.length_take,Array.length_toList,hs1,hvl,Nat.min_eq_left (by omega:o+(i*15)<=cur.size),List.take_of_length_le (by rw[List.length_append,List.length_take,Array.length_toList,hvl];omega)];have e1:c1.toList.take (o+(i*15))=cur.toList.take (o+(i*15)):=by
   rw[hc1];show List.take (o+(i*15)) (cur.toList.take (o+((i+m)*15))++mv++_)=_;rw[List.append_assoc,List.take_append_of_le_length (by rw[List.length_take,Array.length_toList];omega),List.take_take,Nat.min_eq_left (by omega)]
  have e2:List.take (o+((n+m)*15)-(o+(i*15)+(m*15))) (c1.toList.drop (o+(i*15)+(m*15)))=mv:=by
   rw[hc1];show List.take _ (List.drop (o+(i*15)+(m*15)) (cur.toList.take (o+((i+m)*15))++mv++_))=_;rw[List.append_assoc,List.drop_append_of_le_length (by rw[List.length_take,Array.length_toList];omega),List.drop_eq_nil_of_le (by rw[List.length_take];omega),List.nil_append,List.take_append_of_le_length (by rw[hml];omega),List.take_of_length_le (by rw[hml];omega)]
  rw[e1,e2]
 have ho:(cur.toList.take (o+(i*15))).length=o+(i*15):=by rw[List.length_take,Array.length_toList];omega
 refine⟨rfl,⟨c2,setRow_heap W1 b c1 c2 91 fz hb1,?_,?_,?_⟩,?_⟩
 .rw[hc2];simp only[List.size_toArray,List.length_append,List.length_take,List.length_drop,Array.length_toList];omega
 .have:=congrArg (List.take o) hall;rw[List.take_take,Nat.min_eq_left (by omega),List.append_assoc,List.take_append_of_le_length (by omega),List.take_take,Nat.min_eq_left (by omega)]at this;exact this
 .have:=congrArg (List.drop o) hall;rw[List.drop_take,Nat.add_sub_cancel_left,List.append_assoc,List.drop_append_of_le_length (by omega),List.drop_take,Nat.add_sub_cancel_left,<-List.append_assoc]at this;rw[this,<-hmv]
 .rw[hW1];exact⟨rfl,rfl,rfl,by simp,fun k hk hne=>by
   rw[setRow_other _ b k _ (fun e=>hne (by rw[e])),setRow_other _ b k _ (fun e=>hne (by rw[e]))];rfl⟩
set_option maxHeartbeats 4000000 in
set_option maxRecDepth 1000000 in
theorem Mv v0 n c vb vo m vc xs lV vs w(hm:0<m)(hown:rO w 91 15 (.slice v0 n c) n xs)(hv:w.heap[vb]?=some (.cells lV 91 (0,0)))(hvl:vs.length=(m*15))(Rm:(lV.toList.drop vo).take (m*15)=vs)(h1v:∀u∈vs,u.oneCell'=true)(hbig:(n+m)*136<=140737488355328)(h63:n+m<=maxLen) :
 Calls Tryz.prog 192 #[.slice v0 n c,.int .i64 n,.slice (some ⟨vb,vo,none⟩) m vc] w fun e w'=>∃v',e=.returned v'/\rO w' 91 15 v' (n+m) (xs++vs)/\w.grownBy w' (ob v0)/\(v'.ownBlock=ob v0\/v'.ownBlock=some w.heap.size):=by
 obtain⟨i0,z,hi0,hz0,hzs,hzb,hzc⟩:∃i0 z,Tryz.prog.info? 91=some i0/\i0.zero=some z/\i0.size=15/\i0.bytes=136/\z.cells.size=15:=⟨Tryz.t91,_,by kernel_rfl,rfl,rfl,rfl,rfl⟩;obtain⟨v',w',hr,ho,hgr,Qq⟩:=wz (P:=Tryz.prog) w 24 24 91 i0 z 15 136 Tryz.underlying24 hi0 hz0 hzs hzb hzc (by decide) (.slice v0 n c) n xs hown ⟨vb,vo,none⟩ m vc vs (by rw[hvl]<;>omega) (fun j u hj=>by
  rw[<-Rm,List.getElem?_take]at hj;split at hj
  .rw[add_lit];rw[List.getElem?_drop]at hj;simp only[World.cell?,hv];simpa using hj
  .cases hj) h1v h63 hbig
 rw[gV]at hgr Qq;have hnc:n<=c:=by
  rcases hown.2 with⟨hv,h0⟩|⟨g,pre,cap,cur,post,fz,hv,_,_,hnc,_⟩
  .omega
  .injection hv with _ _ h;omega
 have X:Hid (rO w' 91 15 v' (n+m) (xs++vs)/\w.grownBy w' (ob v0)/\(v'.ownBlock=ob v0\/v'.ownBlock=some w.heap.size)):=⟨ho,hgr,Qq⟩;have hc63:c<=9223372036854775807:=by
  rcases hown.2 with⟨hv,h0⟩|⟨g,pre,cap,cur,post,fz,hv,_,_,hnc,hcm,_⟩
  .injection hv with _ _ h;omega
  .injection hv with _ _ h;simp only[maxLen]at hcm;omega
 have hz1:¬ ((m:Int)=0):=by omega
 have hn0:(0:Int)<=(n:Int):=by omega
 clear hown hv hvl Rm h1v ho hgr Qq hi0 hz0 hzs hzb hzc hbig h63
 go_enter Tryz.func192,Tryz.ntmps192
 go_wp2_with (at_builtin;refine Lib.wpList_append_run _ rfl _ _ _ _ rfl _ _ rfl rfl _ _ hr ?_)
 all_goals (go_ret;exact⟨_,rfl,X.out⟩)
set_option maxHeartbeats 4000000 in
set_option maxRecDepth 1000000 in
theorem Kk b o n c i vb vo m vc cur lV fz vs w(hi:i<n)(hm:0<m)(hnc:n<=c)(hroom:c<n+m)(hbig:(n+m)*136<=140737488355328)(h63:n+m<=maxLen)
 (hg:w.heap[b]?=some (.cells cur 91 fz)) (hcs:o+(c*15)<=cur.size) (hv:w.heap[vb]?=some (.cells lV 91 (0,0))) (hvl:vs.length=(m*15)) (Rm:(lV.toList.drop vo).take (m*15)=vs) (h1:∀u∈(cur.toList.drop o).take (n*15),u.oneCell'=true) (h1v:∀u∈vs,u.oneCell'=true) :
 Calls Tryz.prog 192 #[.slice (some ⟨b,o,none⟩) n c,.int .i64 i,.slice (some ⟨vb,vo,none⟩) m vc] w fun e w'=>∃G,e=.returned (.slice (some ⟨w.heap.size,0,none⟩) (n+m) G)/\n+m<=G/\G<=maxLen/\(∃cur',w'.heap[w.heap.size]?=some (.cells cur' 91 (0,0))/\cur'.size=(G*15)/\cur'.toList.take ((n+m)*15)=(cur.toList.drop o).take (i*15)++vs++((cur.toList.drop o).take (n*15)).drop (i*15))/\w.grownBy w' none/\w.heap.size<w'.heap.size:=by
 obtain⟨i0,z,hi0,hz0,hzs,hzb,hzc⟩:∃i0 z,Tryz.prog.info? 91=some i0/\i0.zero=some z/\i0.size=15/\i0.bytes=136/\z.cells.size=15:=⟨Tryz.t91,_,by kernel_rfl,rfl,rfl,rfl,rfl⟩;have hbw:b<w.heap.size:=by
  rcases Nat.lt_or_ge b w.heap.size with h|h
  .exact h
  .rw[Array.getElem?_eq_none h]at hg;cases hg
 have hvw:vb<w.heap.size:=by
  rcases Nat.lt_or_ge vb w.heap.size with h|h
  .exact h
  .rw[Array.getElem?_eq_none h]at hv;cases hv
 have hle:o+(n*15)<=cur.size:=by omega
 obtain⟨mv,hmv⟩:∃mv,mv=((cur.toList.drop o).take (n*15)).drop (i*15):=⟨_,rfl⟩;have hml:mv.length=((n-i)*15):=by
  rw[hmv,List.length_drop,List.length_take,List.length_drop,Array.length_toList];omega
 have hik:i+(n+m-i)=n+m:=by omega
 have hkk:(n:Int)+(m:Int)-(i:Int)=((n+m-i:Nat):Int):=by omega
 obtain⟨G,hG⟩:∃G,G=grownCap w (n+m) c 91:=⟨_,rfl⟩;have hGn:n+m<=G:=by rw[hG];exact grownCap_ge w _ _ _
 have hGm:G<=maxLen:=by rw[hG];exact grownCap_le_maxLen w (n+m) c 91 h63
 obtain⟨ROW,hROW⟩:∃ROW:Array Value,ROW=((cur.toList.drop o).take (i*15)).toArray++Builtin.zeroCells z.cells (n+m-i)++Builtin.zeroCells z.cells (G-(n+m)):=⟨_,rfl⟩;have hRs:ROW.size=(G*15):=by
  rw[hROW];simp only[Array.size_append,List.size_toArray,size_zeroCells,hzc,List.length_take,List.length_drop,Array.length_toList];omega
 have hRt:ROW.toList.take (i*15)=(cur.toList.drop o).take (i*15):=by
  rw[hROW,Array.toList_append,Array.toList_append,List.append_assoc];show List.take (i*15) ((cur.toList.drop o).take (i*15)++_)=_;rw[List.take_append_of_le_length (by rw[List.length_take,List.length_drop,Array.length_toList];omega),List.take_take,Nat.min_self]
 obtain⟨W1,hW1⟩:∃W1,W1=w.drew.alloc (.cells ROW 91):=⟨_,rfl⟩;have hold:(Builtin.firstCells i0.size i (.slice (some ⟨b,o,none⟩) i c)).run Tryz.prog w.drew=.ok ((cur.toList.drop o).take (i*15)).toArray w.drew:=by
  rw[hzs];exact run_firstCells_some w.drew 15 i ⟨b,o,none⟩ i c ((cur.toList.drop o).take (i*15)) (by rw[List.length_take,List.length_drop,Array.length_toList];omega) (fun j u hj=>by
   rw[List.getElem?_take]at hj;split at hj
   .rw[add_lit];rw[List.getElem?_drop]at hj;show w.cell? ⟨b,_,none⟩=some u;simp only[World.cell?,hg];simpa using hj
   .cases hj)
 have hrz:∀ty,(Builtin.append_ #[24,3] ty #[.slice (some ⟨b,o,none⟩) i c,.int .i64 ((n:Int)+(m:Int)-(i:Int))]).run Tryz.prog w=.ok (.slice (some ⟨w.heap.size,0,none⟩) (n+m) G) W1:=fun ty=>by
  have h:=Lib.run_append_grow_zeros w 24 3 ty 91 i0 z .i64 .i64 Tryz.underlying24 Tryz.underlying3 hi0 hz0 (some ⟨b,o,none⟩) i c ((cur.toList.drop o).take (i*15)) hold (n+m-i) (by omega) (by omega) (by omega) (by simp only[maxLen]at h63;omega) (by rw[hzb];omega) (by rw[hzb,hik];exact growslice_fits hroom hbig);rw[hik,<-hG,<-hROW,<-hW1]at h;rw[hkk];exact h
 have hN1:W1.heap[w.heap.size]?=some (.cells ROW 91 (0,0)):=by rw[hW1];exact heap_alloc_new w.drew _
 have hO1:∀k,k<w.heap.size->W1.heap[k]?=w.heap[k]?:=fun k hk=>by rw[hW1];exact heap_alloc_old w.drew _ hk
 have hS1:w.heap.size<W1.heap.size:=by rw[hW1];simp
 have hz:Fz 91 (0,0) ROW.size:=.inl rfl;obtain⟨c1,hc1⟩:∃c1,c1=(ROW.toList.take (i*15)++vs++ROW.toList.drop ((i*15)+vs.length)).toArray:=⟨_,rfl⟩;have hs1:c1.size=ROW.size:=by
  rw[hc1];simp only[List.size_toArray,List.length_append,List.length_take,List.length_drop,Array.length_toList];omega
 obtain⟨W2,hW2⟩:∃W2,W2=W1.setRow w.heap.size c1:=⟨_,rfl⟩;have hN2:W2.heap[w.heap.size]?=some (.cells c1 91 (0,0)):=by rw[hW2];exact setRow_heap W1 w.heap.size ROW c1 91 (0,0) hN1
 have hO2:∀k,k<w.heap.size->W2.heap[k]?=w.heap[k]?:=fun k hk=>by rw[hW2,setRow_other _ w.heap.size k _ (by omega)];exact hO1 k hk
 have hcpA:∀ty dc,(Builtin.copy_ #[24,24] ty #[.slice (some ⟨w.heap.size,i*15,none⟩) (n+m-i) dc,.slice (some ⟨vb,vo,none⟩) m vc]).run Tryz.prog W1=.ok (goInt m) W2:=fun ty dc=>by
  rw[hW2,hc1];exact om W1 24 24 ty 91 15 w.heap.size (i*15) (n+m-i) dc ⟨vb,vo,none⟩ m vc ROW 91 (0,0) hz vs m Tryz.underlying24 Tryz.sizeOf91 hN1 (by simp only[Nat.min_def];split<;>omega) (by rw[hvl]<;>omega) (fun j u hj=>by
   rw[<-Rm,List.getElem?_take]at hj;split at hj
   .rw[add_lit];rw[List.getElem?_drop]at hj;simp only[World.cell?,hO1 vb hvw,hv];simpa using hj
   .cases hj) (by rw[hvl,hRs];omega) h1v
 obtain⟨c2,hc2⟩:∃c2,c2=(c1.toList.take ((i+m)*15)++mv++c1.toList.drop (((i+m)*15)+mv.length)).toArray:=⟨_,rfl⟩;have hcpB:∀ty dc sc,(Builtin.copy_ #[24,24] ty #[.slice (some ⟨w.heap.size,(i+m)*15,none⟩) (n+m-(i+m)) dc,.slice (some ⟨b,o+(i*15),none⟩) (n-i) sc]).run Tryz.prog W2.drew=.ok (goInt ((n-i:Nat):Int)) (W2.drew.setRow w.heap.size c2):=fun ty dc sc=>by
  rw[hc2];exact om W2.drew 24 24 ty 91 15 w.heap.size ((i+m)*15) (n+m-(i+m)) dc ⟨b,o+(i*15),none⟩ (n-i) sc c1 91 (0,0) (.inl rfl) mv (n-i) Tryz.underlying24 Tryz.sizeOf91 hN2 (by simp only[Nat.min_def];split<;>omega) (by rw[hml]<;>omega) (fun j u hj=>by
   rw[hmv,List.getElem?_drop,List.getElem?_take]at hj;split at hj
   .rw[add_lit];rw[List.getElem?_drop,<-Nat.add_assoc]at hj;show W2.cell? ⟨b,_,none⟩=some u;simp only[World.cell?,hO2 b hbw,hg];simpa using hj
   .cases hj) (by rw[hml,hs1,hRs];omega) (fun u hu=>h1 u (by rw[hmv]at hu;exact List.mem_of_mem_drop hu))
 have X:Hid (n+m<=G/\G<=maxLen/\(∃cur',(W2.drew.setRow w.heap.size c2).heap[w.heap.size]?=some (.cells cur' 91 (0,0))/\cur'.size=(G*15)/\cur'.toList.take ((n+m)*15)=(cur.toList.drop o).take (i*15)++vs++((cur.toList.drop o).take (n*15)).drop (i*15))/\w.grownBy (W2.drew.setRow w.heap.size c2) none/\w.heap.size<(W2.drew.setRow w.heap.size c2).heap.size):=by
  refine⟨hGn,hGm,⟨c2,setRow_heap W2.drew w.heap.size c1 c2 91 (0,0) hN2,?_,?_⟩,⟨?_,?_,?_,?_,?_⟩,?_⟩
  .rw[hc2];simp only[List.size_toArray,List.length_append,List.length_take,List.length_drop,Array.length_toList];omega
  .rw[<-hmv,hc2];show List.take ((n+m)*15) (c1.toList.take ((i+m)*15)++mv++_)=_;rw[List.take_append_of_le_length (by rw[List.length_append,List.length_take,Array.length_toList];omega),List.take_of_length_le (by rw[List.length_append,List.length_take,Array.length_toList];omega)];congr 1;rw[hc1];show List.take ((i+m)*15) (ROW.toList.take (i*15)++vs++_)=_;rw[List.take_append_of_le_length (by rw[List.length_append,List.length_take,Array.length_toList];omega),List.take_of_length_le (by rw[List.length_append,List.length_take,Array.length_toList];omega),hRt]
  .show W2.os=w.os;rw[hW2,hW1];rfl
  .show W2.tape=w.tape;rw[hW2,hW1];rfl
  .show W2.output=w.output;rw[hW2,hW1];rfl
  .rw[hW2,hW1];simp
  .intro k hk _;rw[setRow_other _ w.heap.size k _ (by omega)];exact hO2 k hk
  .rw[hW2,hW1];simp
 have hG63:G<=9223372036854775807:=by simp only[maxLen]at hGm;omega
 have hz1:¬ ((m:Int)=0):=by omega
 have hz2:¬ ((i:Int)=(n:Int)):=by omega
 have hz3:(c:Int)<(n:Int)+(m:Int):=by omega
 have hGi:¬ (G=i):=by omega
 have hGim:¬ (G=i+m):=by omega
 have hci:¬ (c=i):=by omega
 have hw1:IntKind.i64.wrap ((i:Int)+(m:Int))=(i:Int)+(m:Int):=by rw[IntKind.wrap_i64];simp only[maxLen]at h63;omega
 have hb1:(0:Int)<=(i:Int)+(m:Int):=by omega
 have hin:i<=n:=by omega
 have htn:((i:Int)+(m:Int)).toNat=i+m:=by omega
 have hb3:(i:Int)<=(n:Int):=by omega
 have mixed:Tryz.prog.follows Departure.mixedOrders=true:=by kernel_rfl
 clear hkk hik hold hROW hRs hRt hN1 hO1 hS1 hz hN2 hO2 hmv hml hc1 hs1 hc2 hW1 hW2 hbw hvw hle hi0 hz0 hzs hzb hzc hbig h63 hg hcs hv hvl Rm h1 h1v hGm hG
 go_enter Tryz.func192,Tryz.ntmps192
 go_wp2_with (first
  | (at_builtin;refine Lib.wpList_append_run _ rfl _ _ _ _ rfl _ _ rfl rfl _ _ (hrz _) ?_)
  | (at_builtin;refine wpList_copy_run _ rfl _ _ 24 24 rfl _ _ rfl rfl (hcpA _ _) ?_))
 go_region_law_o (refine uK rfl _ _ 24 24 rfl (.slice (some ⟨w.heap.size,(i+m)*15,none⟩) (n+m-(i+m)) (G-(i+m))) (.slice (some ⟨b,o+(i*15),none⟩) (n-i) (c-i)) (by simp[Act.eval,Act.put]) (by simp[Act.eval,Act.put]) (hcpB 3 (G-(i+m)) (c-i)) ?_)
 go_wp2
 go_ret
 exact⟨G,rfl,X.out⟩
theorem Jm{α R}[dM R]l(i:Int)(x:α)(h0:0<=i)(h1:i<=l.length)(hbig:(l.length+1)*136<=140737488355328):Spec Tryz.prog 192 [vs 0,vi .i64 i,vs 1] [.o 15 91 R l,.o 15 91 R [x]] (vs 2) [.e,.e,.o 15 91 R (l.take i.toNat++[x]++l.drop i.toNat)]:=by
 refine O6 (v:=.int .i64 i) fun U0 w A B c d ho hp C=>?_;obtain⟨i,rfl⟩:=Int.eq_ofNat_of_zero_le h0;have hil:i<=l.length:=by omega
 have h63:l.length+1<=maxLen:=by simp only[maxLen];omega
 rcases gU hp with⟨_,_,hp⟩|⟨vb,DX,lV,I9,vfz,rfl,hvfz,hv,_,_,hvsz,hve⟩
 .cases hp
 have hvz:vfz=(0,0):=by
  rcases hvfz with h|⟨_,h⟩
  .exact h
  .exact absurd h (by decide)
 subst hvz;have hv1:=fJ.one _ _ hve;have hvl:=fJ.length _ _ hve;have Rm:((DX++lV++I9).toArray.toList.drop DX.length).take (1*15)=lV.take (([x]:List α).length*15):=by
  show((DX++lV++I9).drop DX.length).take (1*15)=lV.take (1*15);rw[List.append_assoc,List.drop_left,List.take_append_of_le_length];rw[List.length_take,List.length_singleton]at hvl;omega
 have hlen:(l.take i++[x]++l.drop i).length=l.length+1:=by
  simp only[List.length_append,List.length_take,List.length_drop,List.length_singleton];omega
 have hT0:∀{W:World} {cs xs:List Value},fJ 15 R (Mu U0 [ob A,some vb]) w cs l->fJ 15 R (Mu U0 [ob A,some vb]) w xs [x]->fJ 15 R (Mu U0 [ob A,some vb]) w (cs.take (i*15)++xs++cs.drop (i*15)) (l.take i++[x]++l.drop i):=fun {W cs xs} h1 h2=>
  fJ.append _ _ _ _ (fJ.append _ _ _ _ (fJ.take i l _ h1) h2) (fJ.drop i l _ h1)
 by_cases hend:i=l.length
 .subst hend;obtain⟨xs,hown,he⟩:=ho;refine(Mv A l.length c vb DX.length 1 d xs (DX++lV++I9).toArray (lV.take (([x]:List α).length*15)) w (by omega) hown hv (by rw[hvl];rfl) Rm hv1 hbig h63).mono ?_;rintro e w' ⟨v',rfl,ho',hgr,Qq⟩;have hform:∃A' c',v'=.slice A' (l.length+1) c':=by
   rcases ho'.2 with⟨hv,h0⟩|⟨g',pre,cap,cur,post,fz,hv,_⟩
   .omega
   .exact⟨_,_,hv⟩
  obtain⟨A',c',rfl⟩:=hform;rw[gV]at Qq;have hlt:∀b,ob A'=some b->b<w'.heap.size:=fun b hb=>ho'.lt b (by rw[gV];exact hb);have hT:=C.turn (w':=w') (y:=ob A') (L':=[ob A',some vb]) (i:=0) rfl hgr.os hgr.tape hgr.output hgr.size (fun k hk hne=>hgr.block k hk fun e=>hne e.symm) (by
   rcases Qq with e|e
   .exact .inl e
   .exact .inr (.inr ⟨e,hlt _ e⟩)) rfl
  refine⟨A',c',by rw[show(l.take ((l.length:Nat):Int).toNat++[x]++l.drop ((l.length:Nat):Int).toNat).length=l.length+1 from hlen],?_,hT.1⟩;have hl':l.take ((l.length:Nat):Int).toNat++[x]++l.drop ((l.length:Nat):Int).toNat=l++[x]:=by
   rw[Int.toNat_natCast,List.take_length,List.drop_length,List.append_nil]
  rw[hl'];refine⟨_,by rw[List.length_append,List.length_singleton];exact ho',?_⟩;exact fJ.append _ _ _ _ (fJ.step hT.2.h1 hT.2.mono _ _ he) (fJ.step hT.2.h1 hT.2.mono _ _ hve)
 .rcases gU ho with⟨_,_,rfl⟩|⟨b,pre,cur,post,fz,rfl,hfz,hg,hle,hm,hsz,he⟩
  .simp at hend hil;omega
  have hone:=fJ.one _ _ he;have hcur:((pre++cur++post).toArray.toList.drop pre.length)=cur++post:=by
   show(pre++cur++post).drop pre.length=_;rw[List.append_assoc,List.drop_left]
  have htk:∀q,q<=cur.length->(cur++post).take q=cur.take q:=fun q hq=>List.take_append_of_le_length hq;have hnl:l.length*15<=cur.length:=by rw[hsz];exact Nat.mul_le_mul_right _ hle
  have hone':∀u∈((pre++cur++post).toArray.toList.drop pre.length).take (l.length*15),u.oneCell'=true:=by rw[hcur,htk _ hnl];exact hone
  have hne:vb≠b:=fun e=>C.sep 0 1 b (by decide) rfl (by rw[<-e];rfl);by_cases hroom:l.length+1<=c
  .refine(Kj b pre.length l.length c i vb DX.length 1 d (pre++cur++post).toArray (DX++lV++I9).toArray fz (lV.take (([x]:List α).length*15)) w (by omega) (by omega) hroom (by simp only[maxLen]at hm;omega) hne hg (by simpa using hfz) (by simp only[List.size_toArray,List.length_append,hsz];omega) hv (by rw[hvl];rfl) Rm hone' hv1).mono ?_;rintro e w' ⟨rfl,⟨cur',hg',hs',hpre,ht⟩,hgr⟩;have hT:=C.turn (w':=w') (y:=some b) (L':=[some b,some vb]) (i:=0) rfl hgr.os hgr.tape hgr.output hgr.size (fun k hk hne=>hgr.block k hk fun e=>hne e.symm) (.inl rfl) rfl;refine⟨some ⟨b,pre.length,none⟩,c,by rw[show(l.take ((i:Nat):Int).toNat++[x]++l.drop ((i:Nat):Int).toNat).length=l.length+1 from hlen],?_,hT.1⟩;show Own 15 91 R _ w' (some ⟨b,pre.length,none⟩) c (l.take i++[x]++l.drop i);have hsz':cur'.toList.length=pre.length+cur.length+post.length:=by
    rw[Array.length_toList,hs'];simp only[List.size_toArray,List.length_append]
   have hsplit:cur'.toList=cur'.toList.take pre.length++(cur'.toList.drop pre.length).take cur.length++(cur'.toList.drop pre.length).drop cur.length:=by
    rw[List.append_assoc,List.take_append_drop,List.take_append_drop]
   have hpl:(cur'.toList.take pre.length).length=pre.length:=by rw[List.length_take];omega
   have hmk:=oq (E:=91) (sz:=15) (R:=R) (U:=Mu U0 [some b,some vb]) (w:=w') (b:=b) (c:=c) (pre:=cur'.toList.take pre.length) (cur:=(cur'.toList.drop pre.length).take cur.length) (post:=(cur'.toList.drop pre.length).drop cur.length) (dt:=l.take i++[x]++l.drop i) (fz:=fz) (by
    rw[<-hsplit,hsz'];simpa [Nat.add_assoc]using hfz) (by rw[<-hsplit];exact hg') (by rw[hlen];omega) hm (by rw[List.length_take,List.length_drop,hsz'];omega) ?_
   .rw[hpl]at hmk;exact hmk
   rw[hlen,List.take_take,Nat.min_eq_left (by rw[hsz];exact Nat.mul_le_mul_right _ hroom)];have hE:=hT0 (W:=w) he hve;have ht2:(cur'.toList.drop pre.length).take ((l.length+1)*15)=(cur.take (l.length*15)).take (i*15)++lV.take (([x]:List α).length*15)++(cur.take (l.length*15)).drop (i*15):=by
    rw[List.take_take,Nat.min_eq_left (Nat.mul_le_mul_right _ hil)];rw[hcur,htk _ hnl,htk _ (Nat.le_trans (Nat.mul_le_mul_right _ hil) hnl)]at ht;exact ht
   rw[ht2];exact fJ.step hT.2.h1 hT.2.mono _ _ hE
  .refine(Kk b pre.length l.length c i vb DX.length 1 d (pre++cur++post).toArray (DX++lV++I9).toArray fz (lV.take (([x]:List α).length*15)) w (by omega) (by omega) hle (by omega) hbig h63 hg (by simp only[List.size_toArray,List.length_append,hsz];omega) hv (by rw[hvl];rfl) Rm hone' hv1).mono ?_;rintro e w' ⟨G,rfl,hG1,hG2,⟨cur',hg',hs',ht⟩,hgr,hlt⟩;have hT:=C.turn (w':=w') (y:=some w.heap.size) (L':=[some w.heap.size,some vb]) (i:=0) rfl hgr.os hgr.tape hgr.output hgr.size (fun k hk _=>hgr.block k hk (by simp)) (.inr (.inr ⟨rfl,hlt⟩)) rfl;refine⟨some ⟨w.heap.size,0,none⟩,G,by rw[show(l.take ((i:Nat):Int).toNat++[x]++l.drop ((i:Nat):Int).toNat).length=l.length+1 from hlen],?_,hT.1⟩;show Own 15 91 R _ w' (some ⟨w.heap.size,0,none⟩) G (l.take i++[x]++l.drop i);refine Ma (.inl rfl) hg' (by rw[hlen];omega) hG2 (by rw[hs']<;>omega) ?_
   rw[hlen];have hE:=hT0 (W:=w) he hve;have ht2:cur'.toList.take ((l.length+1)*15)=(cur.take (l.length*15)).take (i*15)++lV.take (([x]:List α).length*15)++(cur.take (l.length*15)).drop (i*15):=by
    rw[List.take_take,Nat.min_eq_left (Nat.mul_le_mul_right _ hil)];rw[hcur,htk _ hnl,htk _ (Nat.le_trans (Nat.mul_le_mul_right _ hil) hnl)]at ht;exact ht
   rw[ht2];exact fJ.step hT.2.h1 hT.2.mono _ _ hE
end V
end Go.Proofs.YtbgfhaahhdnogaaGreat
