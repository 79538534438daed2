/- slices.Delete at a row of the call's own, of elements of man -/
import Derived.Test.YtbgfhaahhdnogaaGreatRow
import Derived.Test.YtbgfhaahhdnogaaGreatProg
import Derived.WalkKit
import Derived.Deep.RegionLaw
import Derived.Lib.Walk
import Derived.Lib.SliceRun
import Derived.Below
namespace Go.Proofs.YtbgfhaahhdnogaaGreat
namespace V
section
variable {P:Program}
theorem wB w t ty e sz(ht:P.underlying t=some (.slice e))(hs:∀w,(sizeOf e).run P w=.ok sz w)g q n cap cur fz(hfz:Fz e fz cur.size)(hg:w.heap[g]?=some (.cells cur e fz))
 a (m c) news (hl:news.length=m*sz) (hnews:∀j u,news[j]?=some u->w.cell? (a.add j)=some u) (h1:∀u∈news,u.oneCell'=true) (hroom:n+m<=cap) (hfit:q+n*sz+news.length<=cur.size) :
 (Builtin.append_ #[t,t] ty #[.slice (some ⟨g,q,none⟩) n cap,.slice (some a) m c]).run P w=.ok (.slice (some ⟨g,q,none⟩) (n+m) cap) (w.setRow g (cur.toList.take (q+n*sz)++news++cur.toList.drop (q+n*sz+news.length)).toArray):=by
 have hf:=run_firstCells_some (P:=P) w sz m a m c news hl hnews;have hst:=fq P g (q+n*sz) e fz news 0 cur w hg hfz (by simpa using hfit) h1;simp only[Nat.add_zero]at hst;simp[Builtin.append_,run_underlying ht,hs,Builtin.lenOf,hroom,hf,Addr.add_lit,hst]
theorem uL{ops o a w K Q E}
 (hg:o.guard=none) (s x) t (hop:o.op=Op.call {callee:=Callee.builtin Builtin.append,args:=#[s,x],argTypes:=#[t,t]})
 e sz (ht:P.underlying t=some (.slice e)) (hz:∀w,(sizeOf e).run P w=.ok sz w) (b q n cap) (hs:a.eval s=.slice (some ⟨b,q,none⟩) n cap) cur fz (hfz:Fz e fz cur.size) (hb:w.heap[b]?=some (.cells cur e fz))
 ad (m c) news (hx:a.eval x=.slice (some ad) m c) (hn:news.length=m*sz) (hc:∀j u,news[j]?=some u->w.cell? (ad.add j)=some u) (h1c:∀u∈news,u.oneCell'=true)
 (hroom:n+m<=cap) (hfit:q+n*sz+news.length<=cur.size)
 (hK:K (a.put o.dst (.slice (some ⟨b,q,none⟩) (n+m) cap)) (w.setRow b (cur.toList.take (q+n*sz)++news++cur.toList.drop (q+n*sz+news.length)).toArray)) :
 if Region.wanted o (yielded ops a.tmps)=true then Oper.wp P o a w K Q else E:=by
 have hw:Region.wanted o (yielded ops a.tmps)=true:=by simp[Region.wanted,hg]
 rw[if_pos hw];have hrun:=wB (P:=P) w t o.type e sz ht hz b q n cap cur fz hfz hb ad m c news hn hc h1c hroom hfit;unfold Oper.wp;have he:(execOp a.eval o).run P w=.ok (.value (.slice (some ⟨b,q,none⟩) (n+m) cap)) (w.setRow b (cur.toList.take (q+n*sz)++news++cur.toList.drop (q+n*sz+news.length)).toArray):=by
  simp only[execOp,hop,resolve,invoke,builtin,Sem.run_bind,Sem.run_pure,Result.andThen_ok,List.map_toArray,List.map_cons,List.map_nil,hs,hx,hrun]
 rw[he];exact hK
theorem zh w t e ty z sz(ht:P.underlying t=some (.slice e))(hv:∀w,(zeroValue e).run P w=.ok z w)(hz:z.cells.size=sz)(h1:∀u∈z.cells.toList,u.oneCell'=true)b q k c(hk:0<k)cur fz(hfz:Fz e fz cur.size)(hg:w.heap[b]?=some (.cells cur e fz))(hfit:q+k*sz<=cur.size) :
 (Builtin.clear_ #[t] ty #[.slice (some ⟨b,q,none⟩) k c]).run P w=.ok (.tuple #[]) (w.setRow b (cur.toList.take q++(Builtin.zeroCells z.cells k).toList++cur.toList.drop (q+k*sz)).toArray):=by
 have hlen:(Builtin.zeroCells z.cells k).toList.length=k*sz:=by rw[Array.length_toList,size_zeroCells,hz]
 have hone:∀u∈(Builtin.zeroCells z.cells k).toList,u.oneCell'=true:=by
  intro u hu;unfold Builtin.zeroCells at hu;simp only[Array.toList_map,List.mem_map]at hu;obtain⟨q,hq,rfl⟩:=hu;have hq2:q<k*z.cells.size:=by simpa using hq
  have hpos:0<z.cells.size:=by
   rcases Nat.eq_zero_or_pos z.cells.size with h|h
   .rw[h]at hq2;simp at hq2
   .exact h
  have hlt:q%z.cells.size<z.cells.size:=Nat.mod_lt _ hpos;rw[getElem!_pos z.cells _ hlt];exact h1 _ (by simp)
 have hst:=fq P b q e fz (Builtin.zeroCells z.cells k).toList 0 cur w hg hfz (by rw[hlen];simpa using hfit) hone;simp only[Nat.add_zero]at hst;rw[hlen]at hst;obtain⟨m,rfl⟩:∃m,k=m+1:=⟨k-1,by omega⟩;simp[Builtin.clear_,run_underlying ht,hv,hst]
end
theorem EX{P f α sz E}{R:RT α}[dM R]{l l' vals}
 (h:∀(U0:Nat->Prop) (w:World) (A:Option Addr) (c:Nat),Own sz E R (Mu U0 [ob A]) w A c l->Ctx U0 [ob A] w [ob A] w->Calls P f (Value.slice A l.length c::vals).toArray w fun e w'=>∃A' c',e=.returned (.slice A' l'.length c')/\Own sz E R (Mu U0 [ob A']) w' A' c' l'/\Ctx U0 [ob A] w [ob A'] w') :
 Spec P f (vs 0::vals.map fun v=>SV.c (.v v)) [.o sz E R l] (vs 1) [.e,.o sz E R l']:=fun U0 κ w gl S=>by
 obtain⟨c,hc,hok⟩:=S.iy (i:=0) rfl;have hlen:κ.length=1:=S.len
 match κ,hlen,hc,gl,S with
 | [c0],_,hc,gl,S=>
   simp at hc;subst hc;cases c0 with
   | r A n c=>
     obtain⟨hn,ho⟩:=hok;subst hn;have hL:dL [Item.o sz E R l] [Conc.r A l.length c]=[ob A]:=rfl;have hC:Ctx U0 [ob A] w [ob A] w:=S.ctx;have ha:((vs 0::vals.map fun v=>SV.c (.v v)).map (SV.den [Conc.r A l.length c])).toArray=(Value.slice A l.length c::vals).toArray:=by
      rw[List.map_cons,List.map_map];have:(SV.den [Conc.r A l.length c] ∘ fun v=>SV.c (.v v))=id:=rfl;rw[this,List.map_id];rfl
     rw[ha];refine(h U0 w A c ho hC).mono ?_;rintro e w' ⟨A',c',rfl,ho',C⟩;refine⟨[.r A' l'.length c'],rfl,⟨rfl,rfl,by simp,rfl,rfl,C.II.1,?_⟩⟩;intro i it cc h1 h2
     match i with
     | 0=>
       simp at h1 h2;subst h1;subst h2;exact trivial
     | 1=>
       simp at h1 h2;subst h1;subst h2;refine⟨rfl,ho'.mu fun b hb=>?_⟩;rcases hb with hb|hb
       .exact .inl hb
       .exact .inr (by
         have hb2:some b∈[none,ob A']:=hb;simpa using hb2)
     | i+2=>simp at h1
   | _=>exact hok.elim
end V
open Go.Lib Go.RowKit
namespace V
set_option maxHeartbeats 4000000 in
set_option maxRecDepth 1000000 in
theorem Io b o n cap i j cur fz w(hg:w.heap[b]?=some (.cells cur 93 fz))(hfz:Fz 93 fz cur.size)(hcs:o+cap*14<=cur.size)(hn:n<=cap)(hm:cap<=9223372036854775807)(h1:∀u∈(cur.toList.drop o).take (n*14),u.oneCell'=true)(hij:i<=j)(hj:j<=n) :
 Calls Tryz.prog 189 #[.slice (some ⟨b,o,none⟩) n cap,.int .i64 i,.int .i64 j] w fun e w'=>e=.returned (.slice (some ⟨b,o,none⟩) (n-(j-i)) cap)/\(∃cur',w'.heap[b]?=some (.cells cur' 93 fz)/\cur'.size=cur.size/\cur'.toList.take o=cur.toList.take o/\(cur'.toList.drop o).take ((n-(j-i))*14)=(cur.toList.drop o).take (i*14)++((cur.toList.drop o).take (n*14)).drop (j*14))/\w.grownBy w' (some b):=by
 by_cases heq:i=j
 .subst heq;have h0:Calls Tryz.prog 189 #[.slice (some ⟨b,o,none⟩) n cap,.int .i64 i,.int .i64 i] w fun e w'=>e=.returned (.slice (some ⟨b,o,none⟩) n cap)/\w'=w:=by
   clear hg hfz hcs h1
   go_enter Tryz.func189,Tryz.ntmps189
   go_wp2
   all_goals (go_ret;exact⟨rfl,rfl⟩)
  refine h0.mono ?_;rintro e w' ⟨rfl,rfl⟩;refine⟨by rw[Nat.sub_self,Nat.sub_zero],⟨cur,hg,rfl,rfl,?_⟩,⟨rfl,rfl,rfl,Nat.le_refl _,fun _ _ _=>rfl⟩⟩;rw[Nat.sub_self,Nat.sub_zero];have:=List.take_append_drop (i*14) ((cur.toList.drop o).take (n*14));rw[List.take_take,Nat.min_eq_left (Nat.mul_le_mul_right _ hj)]at this;exact this.symm
 .have hlt:i<j:=by omega
  have hic:i<=cap:=by omega
  have hjc:j<=cap:=by omega
  clear heq;have hle:o+n*14<=cur.size:=by have:=Nat.mul_le_mul_right 14 hn;omega
  obtain⟨news,hnews⟩:∃news,news=((cur.toList.drop o).take (n*14)).drop (j*14):=⟨_,rfl⟩;have hlen:news.length=(n-j)*14:=by
   rw[hnews,List.length_drop,List.length_take,List.length_drop,Array.length_toList,Nat.min_eq_left (by omega),Nat.sub_mul]
  obtain⟨A,hA,hsrc⟩:∃A:Addr,(if cap=j then some (⟨b,o,none⟩:Addr)else some ⟨b,o+j*14,none⟩)=some A/\Hid (∀t u,news[t]?=some u->w.drew.cell? (A.add t)=some u):=by
   by_cases h:cap=j
   .refine⟨⟨b,o,none⟩,by simp[h],fun t u hu=>?_⟩;have h0:news.length=0:=by rw[hlen,show n-j=0 by omega]
    rw[List.length_eq_zero_iff.1 h0]at hu;simp at hu
   .refine⟨⟨b,o+j*14,none⟩,by simp[h],fun t u hu=>?_⟩;rw[hnews,List.getElem?_drop,List.getElem?_take]at hu;split at hu
    .rw[add_lit];show w.cell? ⟨b,o+j*14+t,none⟩=some u;rw[List.getElem?_drop,<-Nat.add_assoc]at hu;simp only[World.cell?,hg];simpa using hu
    .cases hu
  have s1:Hid (news.length=(n-j)*14):=hlen;have s2:Hid (∀u∈news,u.oneCell'=true):=fun u hu=>h1 u (by rw[hnews]at hu;exact List.mem_of_mem_drop hu);have hin:(i+(n-j))*14<=n*14:=Nat.mul_le_mul_right _ (by omega);have hadd:(i+(n-j))*14=i*14+(n-j)*14:=Nat.add_mul ..;have s3:Hid (o+i*14+news.length<=cur.size):=by
   show o+i*14+news.length<=cur.size;rw[hlen];omega
  have s4:Hid (w.drew.heap[b]?=some (.cells cur 93 fz)):=hg;have s5:Hid (Fz 93 fz cur.size):=hfz;obtain⟨c1,hc1⟩:∃c1,c1=(cur.toList.take (o+i*14)++news++cur.toList.drop (o+i*14+news.length)).toArray:=⟨_,rfl⟩;have hs1:c1.size=cur.size:=by
   rw[hc1];simp only[List.size_toArray,List.length_append,List.length_take,List.length_drop,Array.length_toList];have:=s3.out;omega
  obtain⟨W1,hW1⟩:∃W1,W1=w.drew.setRow b c1:=⟨_,rfl⟩;have hb1:W1.heap[b]?=some (.cells c1 93 fz):=by rw[hW1];exact setRow_heap w.drew b cur c1 93 fz hg
  have hz0:(i+(n-j))*14+(n-(i+(n-j)))*14=n*14:=by rw[<-Nat.add_mul];congr 1;omega
  have hz1:o+(i+(n-j))*14+(n-(i+(n-j)))*14<=c1.size:=by
   rw[hs1];omega
  obtain⟨zc,hzl,hcl0⟩:∃zc:List Value,zc.length=(n-(i+(n-j)))*14/\∀ty,(Builtin.clear_ #[25] ty #[.slice (some ⟨b,o+(i+(n-j))*14,none⟩) (n-(i+(n-j))) (cap-(i+(n-j)))]).run Tryz.prog W1=.ok (.tuple #[]) (W1.setRow b (c1.toList.take (o+(i+(n-j))*14)++zc++c1.toList.drop (o+(i+(n-j))*14+(n-(i+(n-j)))*14)).toArray):=
   ⟨_,(by rw[Array.length_toList,size_zeroCells];rfl),fun ty=>zh W1 25 93 ty _ 14 Tryz.underlying25 Tryz.zeroValue93 (by rfl) (by simp[Value.cells,Value.oneCell']) b (o+(i+(n-j))*14) (n-(i+(n-j))) _ (by omega) c1 fz (by rw[hs1];exact hfz) hb1 hz1⟩
  obtain⟨c2,hc2⟩:∃c2,c2=(c1.toList.take (o+(i+(n-j))*14)++zc++c1.toList.drop (o+(i+(n-j))*14+(n-(i+(n-j)))*14)).toArray:=⟨_,rfl⟩;have hcl:∀ty,(Builtin.clear_ #[25] ty #[.slice (some ⟨b,o+(i+(n-j))*14,none⟩) (n-(i+(n-j))) (cap-(i+(n-j)))]).run Tryz.prog W1=.ok (.tuple #[]) (W1.setRow b c2):=fun ty=>by rw[hc2];exact hcl0 ty
  have Di:Hid (zc.length=(n-(i+(n-j)))*14/\c2=(c1.toList.take (o+(i+(n-j))*14)++zc++c1.toList.drop (o+(i+(n-j))*14+(n-(i+(n-j)))*14)).toArray):=⟨hzl,hc2⟩;clear hcl0 hzl hc2;have X:Hid (W1=w.drew.setRow b c1/\c1=(cur.toList.take (o+i*14)++news++cur.toList.drop (o+i*14+news.length)).toArray/\news=((cur.toList.drop o).take (n*14)).drop (j*14)/\news.length=(n-j)*14/\c1.size=cur.size/\o+n*14<=cur.size/\(i+(n-j))*14<=n*14/\(i+(n-j))*14=i*14+(n-j)*14/\(i+(n-j))*14+(n-(i+(n-j)))*14=n*14/\w.heap[b]?=some (.cells cur 93 fz)/\W1.heap[b]?=some (.cells c1 93 fz)):=⟨hW1,hc1,hnews,hlen,hs1,hle,hin,hadd,hz0,hg,hb1⟩;have hW:Hid (w.drew.setRow b (cur.toList.take (o+i*14)++news++cur.toList.drop (o+i*14+news.length)).toArray=W1):=by
   show _=W1;rw[hW1,hc1]
  clear hg hfz hcs h1 hle hnews hlen hc1 hs1 hW1 hb1 hz1 hin hadd hz0
  go_enter Tryz.func189,Tryz.ntmps189
  go_wp2_with fail
  go_region_law (refine uL rfl (.tmp 22) (.tmp 25) 25 rfl 93 14 Tryz.underlying25 Tryz.sizeOf93 b o i cap (by simp[Act.eval,Act.put]) cur fz s5.out s4.out A (n-j) (cap-j) news (by simp[Act.eval,Act.put,hA]) s1.out hsrc.out s2.out (by omega) s3.out ?_;rw[hW.out])
  go_wp2
  go_ret
  obtain⟨hW1,hc1,hnews,hlen,hs1,hle,hin,hadd,hz0,hg,hb1⟩:=X.out;obtain⟨hzl,hc2⟩:=Di.out;refine⟨by rw[show n-(j-i)=i+(n-j) by omega];rfl,?_,?_⟩
  .have acI:(c1.toList.take (o+(i+(n-j))*14)).length=o+(i+(n-j))*14:=by rw[List.length_take,Array.length_toList];omega
   have hl0:(cur.toList.take (o+i*14)++news).length=o+(i+(n-j))*14:=by
    rw[List.length_append,List.length_take,Array.length_toList,hlen,Nat.min_eq_left (by omega)];omega
   have Uj:c2.toList.take (o+(i+(n-j))*14)=cur.toList.take (o+i*14)++news:=by
    rw[hc2];show List.take _ (c1.toList.take (o+(i+(n-j))*14)++_++_)=_;rw[List.append_assoc,List.take_append,acI,Nat.sub_self,List.take_zero,List.append_nil,List.take_take,Nat.min_self,hc1];show List.take _ (cur.toList.take (o+i*14)++news++_)=_;rw[<-hl0];exact List.take_left
   refine⟨_,setRow_heap W1 b c1 _ 93 fz hb1,?_,?_,?_⟩
   .rw[hc2,List.size_toArray,List.length_append,List.length_append,List.length_take,List.length_drop,hzl,Array.length_toList,hs1];omega
   .have:=congrArg (List.take o) Uj;rw[List.take_take,Nat.min_eq_left (by omega),List.take_append,List.take_take,Nat.min_eq_left (by omega)]at this;rw[this,show o-(cur.toList.take (o+i*14)).length=0 by rw[List.length_take,Array.length_toList];omega,List.take_zero,List.append_nil]
   .have:=congrArg (List.drop o) Uj;rw[List.drop_take,Nat.add_sub_cancel_left,List.drop_append,List.drop_take,Nat.add_sub_cancel_left]at this;rw[show n-(j-i)=i+(n-j) by omega,this,<-hnews,show o-(cur.toList.take (o+i*14)).length=0 by rw[List.length_take,Array.length_toList];omega,List.drop_zero]
  .rw[hW1];exact⟨rfl,rfl,rfl,by simp,fun k hk hne=>by
    rw[setRow_other _ b k _ (fun e=>hne (by rw[e])),setRow_other _ b k _ (fun e=>hne (by rw[e]))];rfl⟩
theorem MQ w:Calls Tryz.prog 189 #[.slice none 0 0,.int .i64 0,.int .i64 0] w fun e w'=>e=.returned (.slice none 0 0)/\w'=w:=by
 go_enter Tryz.func189,Tryz.ntmps189
 go_wp2
 all_goals (go_ret;exact⟨rfl,rfl⟩)
theorem Jp{α}{R:RT α}[dM R]l(i j:Int)(h0:0<=i)(h1:i<=j)(h2:j<=l.length):Spec Tryz.prog 189 [vs 0,vi .i64 i,vi .i64 j] [.o 14 93 R l] (vs 1) [.e,.o 14 93 R (l.take i.toNat++l.drop j.toNat)]:=by
 refine EX (vals:=[.int .i64 i,.int .i64 j]) fun U0 w A c ho C=>?_;rcases gU ho with⟨rfl,rfl,rfl⟩|⟨b,pre,cur,post,fz,rfl,hfz,hg,hle,hm,hsz,he⟩
 .simp at h2;have hi:i=0:=by omega
  have hj:j=0:=by omega
  subst hi;subst hj;refine(MQ w).mono ?_;rintro e w' ⟨rfl,rfl⟩;exact⟨none,0,rfl,ho,C⟩
 .obtain⟨i,rfl⟩:=Int.eq_ofNat_of_zero_le h0;obtain⟨j,rfl⟩:=Int.eq_ofNat_of_zero_le (by omega:0<=j);have hij:i<=j:=by omega
  have hjl:j<=l.length:=by omega
  have hone:=fJ.one _ _ he;have hcur:((pre++cur++post).toArray.toList.drop pre.length)=cur++post:=by
   show(pre++cur++post).drop pre.length=_;rw[List.append_assoc,List.drop_left]
  have htk:∀q,q<=cur.length->(cur++post).take q=cur.take q:=fun q hq=>by rw[List.take_append,show q-cur.length=0 by omega,List.take_zero,List.append_nil]
  have hnl:l.length*14<=cur.length:=by rw[hsz];exact Nat.mul_le_mul_right _ hle
  refine(Io b pre.length l.length c i j (pre++cur++post).toArray fz w hg (by simpa using hfz) (by simp only[List.size_toArray,List.length_append,hsz];omega) hle hm (by rw[hcur,htk _ hnl];exact hone) hij hjl).mono ?_;rintro e w' ⟨rfl,⟨cur',hg',hs',hpre,ht⟩,hgr⟩;rw[hcur,htk _ hnl,htk _ (Nat.le_trans (Nat.mul_le_mul_right _ (by omega)) hnl)]at ht;have hlen:(l.take i++l.drop j).length=l.length-(j-i):=by
   rw[List.length_append,List.length_take,List.length_drop];omega
  have hT:=C.turn (w':=w') (y:=some b) (L':=[some b]) (i:=0) rfl hgr.os hgr.tape hgr.output hgr.size (fun k hk hne=>hgr.block k hk fun e=>hne e.symm) (.inl rfl) rfl;have hsz':cur'.toList.length=pre.length+cur.length+post.length:=by
   rw[Array.length_toList,hs'];simp only[List.size_toArray,List.length_append]
  have hsplit:cur'.toList=cur'.toList.take pre.length++(cur'.toList.drop pre.length).take cur.length++(cur'.toList.drop pre.length).drop cur.length:=by
   rw[List.append_assoc,List.take_append_drop,List.take_append_drop]
  have hpl:(cur'.toList.take pre.length).length=pre.length:=by rw[List.length_take];omega
  refine⟨some ⟨b,pre.length,none⟩,c,by rw[show(l.take (i:Int).toNat++l.drop (j:Int).toNat)=l.take i++l.drop j from rfl,hlen],?_,hT.1⟩;show Own 14 93 R _ w' (some ⟨b,pre.length,none⟩) c (l.take i++l.drop j);have hmk:=oq (E:=93) (sz:=14) (R:=R) (U:=Mu U0 [some b]) (w:=w') (b:=b) (c:=c) (pre:=cur'.toList.take pre.length) (cur:=(cur'.toList.drop pre.length).take cur.length) (post:=(cur'.toList.drop pre.length).drop cur.length) (dt:=l.take i++l.drop j) (fz:=fz) (by
   rw[<-hsplit,hsz'];simpa [Nat.add_assoc]using hfz) (by rw[<-hsplit];exact hg') (by rw[hlen];omega) hm (by rw[List.length_take,List.length_drop,hsz'];omega) ?_
  .rw[hpl]at hmk;exact hmk
  .rw[hlen,List.take_take,Nat.min_eq_left (Nat.le_trans (Nat.mul_le_mul_right _ (by omega)) hnl),ht];have e1:=fJ.take i l _ he;have e2:=fJ.drop j l _ he;rw[List.take_take,Nat.min_eq_left (Nat.mul_le_mul_right _ (by omega))]at e1;exact fJ.step hT.2.h1 hT.2.mono _ _ (fJ.append _ _ _ _ e1 e2)
end V
open Go.Lib Go.RowKit
namespace V
set_option maxHeartbeats 4000000 in
set_option maxRecDepth 1000000 in
theorem Im b o n cap i j cur fz w(hg:w.heap[b]?=some (.cells cur 91 fz))(hfz:Fz 91 fz cur.size)(hcs:o+cap*15<=cur.size)(hn:n<=cap)(hm:cap<=9223372036854775807)(h1:∀u∈(cur.toList.drop o).take (n*15),u.oneCell'=true)(hij:i<=j)(hj:j<=n) :
 Calls Tryz.prog 190 #[.slice (some ⟨b,o,none⟩) n cap,.int .i64 i,.int .i64 j] w fun e w'=>e=.returned (.slice (some ⟨b,o,none⟩) (n-(j-i)) cap)/\(∃cur',w'.heap[b]?=some (.cells cur' 91 fz)/\cur'.size=cur.size/\cur'.toList.take o=cur.toList.take o/\(cur'.toList.drop o).take ((n-(j-i))*15)=(cur.toList.drop o).take (i*15)++((cur.toList.drop o).take (n*15)).drop (j*15))/\w.grownBy w' (some b):=by
 by_cases heq:i=j
 .subst heq;have h0:Calls Tryz.prog 190 #[.slice (some ⟨b,o,none⟩) n cap,.int .i64 i,.int .i64 i] w fun e w'=>e=.returned (.slice (some ⟨b,o,none⟩) n cap)/\w'=w:=by
   clear hg hfz hcs h1
   go_enter Tryz.func190,Tryz.ntmps190
   go_wp2
   all_goals (go_ret;exact⟨rfl,rfl⟩)
  refine h0.mono ?_;rintro e w' ⟨rfl,rfl⟩;refine⟨by rw[Nat.sub_self,Nat.sub_zero],⟨cur,hg,rfl,rfl,?_⟩,⟨rfl,rfl,rfl,Nat.le_refl _,fun _ _ _=>rfl⟩⟩;rw[Nat.sub_self,Nat.sub_zero];have:=List.take_append_drop (i*15) ((cur.toList.drop o).take (n*15));rw[List.take_take,Nat.min_eq_left (Nat.mul_le_mul_right _ hj)]at this;exact this.symm
 .have hlt:i<j:=by omega
  have hic:i<=cap:=by omega
  have hjc:j<=cap:=by omega
  clear heq;have hle:o+n*15<=cur.size:=by have:=Nat.mul_le_mul_right 15 hn;omega
  obtain⟨news,hnews⟩:∃news,news=((cur.toList.drop o).take (n*15)).drop (j*15):=⟨_,rfl⟩;have hlen:news.length=(n-j)*15:=by
   rw[hnews,List.length_drop,List.length_take,List.length_drop,Array.length_toList,Nat.min_eq_left (by omega),Nat.sub_mul]
  obtain⟨A,hA,hsrc⟩:∃A:Addr,(if cap=j then some (⟨b,o,none⟩:Addr)else some ⟨b,o+j*15,none⟩)=some A/\Hid (∀t u,news[t]?=some u->w.drew.cell? (A.add t)=some u):=by
   by_cases h:cap=j
   .refine⟨⟨b,o,none⟩,by simp[h],fun t u hu=>?_⟩;have h0:news.length=0:=by rw[hlen,show n-j=0 by omega]
    rw[List.length_eq_zero_iff.1 h0]at hu;simp at hu
   .refine⟨⟨b,o+j*15,none⟩,by simp[h],fun t u hu=>?_⟩;rw[hnews,List.getElem?_drop,List.getElem?_take]at hu;split at hu
    .rw[add_lit];show w.cell? ⟨b,o+j*15+t,none⟩=some u;rw[List.getElem?_drop,<-Nat.add_assoc]at hu;simp only[World.cell?,hg];simpa using hu
    .cases hu
  have s1:Hid (news.length=(n-j)*15):=hlen;have s2:Hid (∀u∈news,u.oneCell'=true):=fun u hu=>h1 u (by rw[hnews]at hu;exact List.mem_of_mem_drop hu);have hin:(i+(n-j))*15<=n*15:=Nat.mul_le_mul_right _ (by omega);have hadd:(i+(n-j))*15=i*15+(n-j)*15:=Nat.add_mul ..;have s3:Hid (o+i*15+news.length<=cur.size):=by
   show o+i*15+news.length<=cur.size;rw[hlen];omega
  have s4:Hid (w.drew.heap[b]?=some (.cells cur 91 fz)):=hg;have s5:Hid (Fz 91 fz cur.size):=hfz;obtain⟨c1,hc1⟩:∃c1,c1=(cur.toList.take (o+i*15)++news++cur.toList.drop (o+i*15+news.length)).toArray:=⟨_,rfl⟩;have hs1:c1.size=cur.size:=by
   rw[hc1];simp only[List.size_toArray,List.length_append,List.length_take,List.length_drop,Array.length_toList];have:=s3.out;omega
  obtain⟨W1,hW1⟩:∃W1,W1=w.drew.setRow b c1:=⟨_,rfl⟩;have hb1:W1.heap[b]?=some (.cells c1 91 fz):=by rw[hW1];exact setRow_heap w.drew b cur c1 91 fz hg
  have hz0:(i+(n-j))*15+(n-(i+(n-j)))*15=n*15:=by rw[<-Nat.add_mul];congr 1;omega
  have hz1:o+(i+(n-j))*15+(n-(i+(n-j)))*15<=c1.size:=by
   rw[hs1];omega
  obtain⟨zc,hzl,hcl0⟩:∃zc:List Value,zc.length=(n-(i+(n-j)))*15/\∀ty,(Builtin.clear_ #[24] ty #[.slice (some ⟨b,o+(i+(n-j))*15,none⟩) (n-(i+(n-j))) (cap-(i+(n-j)))]).run Tryz.prog W1=.ok (.tuple #[]) (W1.setRow b (c1.toList.take (o+(i+(n-j))*15)++zc++c1.toList.drop (o+(i+(n-j))*15+(n-(i+(n-j)))*15)).toArray):=
   ⟨_,(by rw[Array.length_toList,size_zeroCells];rfl),fun ty=>zh W1 24 91 ty _ 15 Tryz.underlying24 Tryz.zeroValue91 (by rfl) (by simp[Value.cells,Value.oneCell']) b (o+(i+(n-j))*15) (n-(i+(n-j))) _ (by omega) c1 fz (by rw[hs1];exact hfz) hb1 hz1⟩
  obtain⟨c2,hc2⟩:∃c2,c2=(c1.toList.take (o+(i+(n-j))*15)++zc++c1.toList.drop (o+(i+(n-j))*15+(n-(i+(n-j)))*15)).toArray:=⟨_,rfl⟩;have hcl:∀ty,(Builtin.clear_ #[24] ty #[.slice (some ⟨b,o+(i+(n-j))*15,none⟩) (n-(i+(n-j))) (cap-(i+(n-j)))]).run Tryz.prog W1=.ok (.tuple #[]) (W1.setRow b c2):=fun ty=>by rw[hc2];exact hcl0 ty
  have Di:Hid (zc.length=(n-(i+(n-j)))*15/\c2=(c1.toList.take (o+(i+(n-j))*15)++zc++c1.toList.drop (o+(i+(n-j))*15+(n-(i+(n-j)))*15)).toArray):=⟨hzl,hc2⟩;clear hcl0 hzl hc2;have X:Hid (W1=w.drew.setRow b c1/\c1=(cur.toList.take (o+i*15)++news++cur.toList.drop (o+i*15+news.length)).toArray/\news=((cur.toList.drop o).take (n*15)).drop (j*15)/\news.length=(n-j)*15/\c1.size=cur.size/\o+n*15<=cur.size/\(i+(n-j))*15<=n*15/\(i+(n-j))*15=i*15+(n-j)*15/\(i+(n-j))*15+(n-(i+(n-j)))*15=n*15/\w.heap[b]?=some (.cells cur 91 fz)/\W1.heap[b]?=some (.cells c1 91 fz)):=⟨hW1,hc1,hnews,hlen,hs1,hle,hin,hadd,hz0,hg,hb1⟩;have hW:Hid (w.drew.setRow b (cur.toList.take (o+i*15)++news++cur.toList.drop (o+i*15+news.length)).toArray=W1):=by
   show _=W1;rw[hW1,hc1]
  clear hg hfz hcs h1 hle hnews hlen hc1 hs1 hW1 hb1 hz1 hin hadd hz0
  go_enter Tryz.func190,Tryz.ntmps190
  go_wp2_with fail
  go_region_law (refine uL rfl (.tmp 22) (.tmp 25) 24 rfl 91 15 Tryz.underlying24 Tryz.sizeOf91 b o i cap (by simp[Act.eval,Act.put]) cur fz s5.out s4.out A (n-j) (cap-j) news (by simp[Act.eval,Act.put,hA]) s1.out hsrc.out s2.out (by omega) s3.out ?_;rw[hW.out])
  go_wp2
  go_ret
  obtain⟨hW1,hc1,hnews,hlen,hs1,hle,hin,hadd,hz0,hg,hb1⟩:=X.out;obtain⟨hzl,hc2⟩:=Di.out;refine⟨by rw[show n-(j-i)=i+(n-j) by omega];rfl,?_,?_⟩
  .have acI:(c1.toList.take (o+(i+(n-j))*15)).length=o+(i+(n-j))*15:=by rw[List.length_take,Array.length_toList];omega
   have hl0:(cur.toList.take (o+i*15)++news).length=o+(i+(n-j))*15:=by
    rw[List.length_append,List.length_take,Array.length_toList,hlen,Nat.min_eq_left (by omega)];omega
   have Uj:c2.toList.take (o+(i+(n-j))*15)=cur.toList.take (o+i*15)++news:=by
    rw[hc2];show List.take _ (c1.toList.take (o+(i+(n-j))*15)++_++_)=_;rw[List.append_assoc,List.take_append,acI,Nat.sub_self,List.take_zero,List.append_nil,List.take_take,Nat.min_self,hc1];show List.take _ (cur.toList.take (o+i*15)++news++_)=_;rw[<-hl0];exact List.take_left
   refine⟨_,setRow_heap W1 b c1 _ 91 fz hb1,?_,?_,?_⟩
   .rw[hc2,List.size_toArray,List.length_append,List.length_append,List.length_take,List.length_drop,hzl,Array.length_toList,hs1];omega
   .have:=congrArg (List.take o) Uj;rw[List.take_take,Nat.min_eq_left (by omega),List.take_append,List.take_take,Nat.min_eq_left (by omega)]at this;rw[this,show o-(cur.toList.take (o+i*15)).length=0 by rw[List.length_take,Array.length_toList];omega,List.take_zero,List.append_nil]
   .have:=congrArg (List.drop o) Uj;rw[List.drop_take,Nat.add_sub_cancel_left,List.drop_append,List.drop_take,Nat.add_sub_cancel_left]at this;rw[show n-(j-i)=i+(n-j) by omega,this,<-hnews,show o-(cur.toList.take (o+i*15)).length=0 by rw[List.length_take,Array.length_toList];omega,List.drop_zero]
  .rw[hW1];exact⟨rfl,rfl,rfl,by simp,fun k hk hne=>by
    rw[setRow_other _ b k _ (fun e=>hne (by rw[e])),setRow_other _ b k _ (fun e=>hne (by rw[e]))];rfl⟩
theorem MP w:Calls Tryz.prog 190 #[.slice none 0 0,.int .i64 0,.int .i64 0] w fun e w'=>e=.returned (.slice none 0 0)/\w'=w:=by
 go_enter Tryz.func190,Tryz.ntmps190
 go_wp2
 all_goals (go_ret;exact⟨rfl,rfl⟩)
theorem Jo{α}{R:RT α}[dM R]l(i j:Int)(h0:0<=i)(h1:i<=j)(h2:j<=l.length):Spec Tryz.prog 190 [vs 0,vi .i64 i,vi .i64 j] [.o 15 91 R l] (vs 1) [.e,.o 15 91 R (l.take i.toNat++l.drop j.toNat)]:=by
 refine EX (vals:=[.int .i64 i,.int .i64 j]) fun U0 w A c ho C=>?_;rcases gU ho with⟨rfl,rfl,rfl⟩|⟨b,pre,cur,post,fz,rfl,hfz,hg,hle,hm,hsz,he⟩
 .simp at h2;have hi:i=0:=by omega
  have hj:j=0:=by omega
  subst hi;subst hj;refine(MP w).mono ?_;rintro e w' ⟨rfl,rfl⟩;exact⟨none,0,rfl,ho,C⟩
 .obtain⟨i,rfl⟩:=Int.eq_ofNat_of_zero_le h0;obtain⟨j,rfl⟩:=Int.eq_ofNat_of_zero_le (by omega:0<=j);have hij:i<=j:=by omega
  have hjl:j<=l.length:=by omega
  have hone:=fJ.one _ _ he;have hcur:((pre++cur++post).toArray.toList.drop pre.length)=cur++post:=by
   show(pre++cur++post).drop pre.length=_;rw[List.append_assoc,List.drop_left]
  have htk:∀q,q<=cur.length->(cur++post).take q=cur.take q:=fun q hq=>by rw[List.take_append,show q-cur.length=0 by omega,List.take_zero,List.append_nil]
  have hnl:l.length*15<=cur.length:=by rw[hsz];exact Nat.mul_le_mul_right _ hle
  refine(Im b pre.length l.length c i j (pre++cur++post).toArray fz w hg (by simpa using hfz) (by simp only[List.size_toArray,List.length_append,hsz];omega) hle hm (by rw[hcur,htk _ hnl];exact hone) hij hjl).mono ?_;rintro e w' ⟨rfl,⟨cur',hg',hs',hpre,ht⟩,hgr⟩;rw[hcur,htk _ hnl,htk _ (Nat.le_trans (Nat.mul_le_mul_right _ (by omega)) hnl)]at ht;have hlen:(l.take i++l.drop j).length=l.length-(j-i):=by
   rw[List.length_append,List.length_take,List.length_drop];omega
  have hT:=C.turn (w':=w') (y:=some b) (L':=[some b]) (i:=0) rfl hgr.os hgr.tape hgr.output hgr.size (fun k hk hne=>hgr.block k hk fun e=>hne e.symm) (.inl rfl) rfl;have hsz':cur'.toList.length=pre.length+cur.length+post.length:=by
   rw[Array.length_toList,hs'];simp only[List.size_toArray,List.length_append]
  have hsplit:cur'.toList=cur'.toList.take pre.length++(cur'.toList.drop pre.length).take cur.length++(cur'.toList.drop pre.length).drop cur.length:=by
   rw[List.append_assoc,List.take_append_drop,List.take_append_drop]
  have hpl:(cur'.toList.take pre.length).length=pre.length:=by rw[List.length_take];omega
  refine⟨some ⟨b,pre.length,none⟩,c,by rw[show(l.take (i:Int).toNat++l.drop (j:Int).toNat)=l.take i++l.drop j from rfl,hlen],?_,hT.1⟩;show Own 15 91 R _ w' (some ⟨b,pre.length,none⟩) c (l.take i++l.drop j);have hmk:=oq (E:=91) (sz:=15) (R:=R) (U:=Mu U0 [some b]) (w:=w') (b:=b) (c:=c) (pre:=cur'.toList.take pre.length) (cur:=(cur'.toList.drop pre.length).take cur.length) (post:=(cur'.toList.drop pre.length).drop cur.length) (dt:=l.take i++l.drop j) (fz:=fz) (by
   rw[<-hsplit,hsz'];simpa [Nat.add_assoc]using hfz) (by rw[<-hsplit];exact hg') (by rw[hlen];omega) hm (by rw[List.length_take,List.length_drop,hsz'];omega) ?_
  .rw[hpl]at hmk;exact hmk
  .rw[hlen,List.take_take,Nat.min_eq_left (Nat.le_trans (Nat.mul_le_mul_right _ (by omega)) hnl),ht];have e1:=fJ.take i l _ he;have e2:=fJ.drop j l _ he;rw[List.take_take,Nat.min_eq_left (Nat.mul_le_mul_right _ (by omega))]at e1;exact fJ.step hT.2.h1 hT.2.mono _ _ (fJ.append _ _ _ _ e1 e2)
end V
end Go.Proofs.YtbgfhaahhdnogaaGreat
