/- Numbers and bytes: what the functions of octets, and Put and -/
import Derived.Test.YtbgfhaahhdnogaaGreatLoop
import Derived.Test.YtbgfhaahhdnogaaGreatFn
import Derived.KernelRfl
namespace Go.Proofs.YtbgfhaahhdnogaaGreat
namespace V
universe u
theorem nG0{c}{h:Decidable c}(hc:¬c){α:Sort u}{t e:α}:ite c t e=e:=if_neg hc
theorem pG0{c}{h:Decidable c}(hc:c){α:Sort u}{t e:α}:ite c t e=t:=if_pos hc
theorem f7{c}{h:Decidable c}{α:Sort u}{t e:α}(g:¬c:=by omega):ite c t e=e:=if_neg g
theorem f8{c}{h:Decidable c}{α:Sort u}{t e:α}(g:¬c:=by simp):ite c t e=e:=if_neg g
theorem f9{c}{h:Decidable c}{α:Sort u}{t e:α}(g:¬c:=by simp[len];omega):ite c t e=e:=if_neg g
theorem h9{c}{h:Decidable c}{α:Sort u}{t e:α}(g:¬c:=by simp[len]):ite c t e=e:=if_neg g
theorem i4{c}{h:Decidable c}{α:Sort u}{t e:α}(g:¬c:=by simp;omega):ite c t e=e:=if_neg g
theorem i5{c}{h:Decidable c}{α:Sort u}{t e:α}(g:c:=by simp[len];omega):ite c t e=t:=if_pos g
theorem i6{c}{h:Decidable c}{α:Sort u}{t e:α}(g:c:=by decide):ite c t e=t:=if_pos g
theorem i7{x}(g: -9223372036854775808<=x:=by omega)(h:x<9223372036854775808:=by omega):aL x=x:=bW g h
theorem lC0{α:Type}{a:α}{l}:(a::l).length=l.length+1:=List.length_cons
theorem mC{α β:Type}{f:α->β}{a l}:(a::l).map f=f a::l.map f:=List.map_cons
theorem lR(n:Nat):n<=n:=Nat.le_refl n
theorem mS{α:Type}{a b:α}:a∈[b]↔a=b:=List.mem_singleton
theorem lT0{α:Type}{i}{l:List α}:(l.take i).length=min i l.length:=List.length_take
theorem bs{α β:Type}a(f:α->Option β):(some a).bind f=f a:=rfl
theorem gE{α:Type}{l:List α}{i:Nat}h:l[i]?=some l[i]:=List.getElem?_eq_getElem h
theorem lA{α:Type}{l m:List α}:(l++m).length=l.length+m.length:=List.length_append
theorem gM{α:Type}{l:List α}{i:Nat}h:l[i]∈l:=List.getElem_mem h
theorem gS{α:Type}{l:List α}{i:Nat}{a}:l[i]?=some a↔∃h,l[i]=a:=List.getElem?_eq_some_iff
def FF:Nat:=1125899906842624
def Byte(x:Int):Prop:=0<=x/\x<256
def zo:Nat->Int->List Int
 | 0,_=>[]
 | k+1,n=>n%256::zo k (n/256)
def num:List Int->Int
 | []=>0
 | b::r=>b+256*num r
theorem lL:∀k n,(zo k n).length=k
 | 0,_=>rfl
 | k+1,n=>by simp[zo,lL k]
theorem CV:∀k n,∀x∈zo k n,Byte x
 | 0,_,x,h=>by cases h
 | k+1,n,x,h=>by
   rcases List.mem_cons.1 h with rfl|h
   .exact⟨Int.emod_nonneg _ (by decide),Int.emod_lt_of_pos _ (by decide)⟩
   .exact CV k _ x h
theorem sP k:(256:Int)^(k+1)=256*256^k:=by rw[Int.pow_succ,Int.mul_comm]
theorem LY k:(0:Int)<256^k:=Int.pow_pos (by decide)
theorem J8:∀k n,zo (k+1) n=zo k n++[n/256^k%256]
 | 0,n=>by simp[zo]
 | k+1,n=>by
   have:=J8 k (n/256);rw[zo,this,zo,List.cons_append,sP,Int.ediv_ediv_of_nonneg (by decide:(0:Int)<=256)]
theorem num_nonneg:∀{l},(∀x∈l,Byte x)->0<=num l
 | [],_=>by simp[num]
 | b::r,h=>by
   have h1:=(h b (by simp)).1;have h2:=num_nonneg (l:=r) fun x hx=>h x (by simp[hx]);simp only[num];omega
theorem Mg:∀{l},(∀x∈l,Byte x)->num l<256^l.length
 | [],_=>by simp[num]
 | b::r,h=>by
   have h1:=(h b (by simp)).2;have h2:=Mg (l:=r) fun x hx=>h x (by simp[hx]);simp only[num,lC0,sP];omega
theorem H7:∀{l},(∀x∈l,Byte x)->zo l.length (num l)=l
 | [],_=>rfl
 | b::r,h=>by
   obtain⟨h0,h1⟩:=h b (by simp);have hr:=H7 (l:=r) fun x hx=>h x (by simp[hx]);simp only[lC0,zo,num];rw[show(b+256*num r)%256=b from by omega,show(b+256*num r)/256=num r from by omega,hr]
theorem CB:∀l m,num (l++m)=num l+256^l.length*num m
 | [],m=>by simp[num]
 | b::r,m=>by
   simp only[List.cons_append,num,lC0,sP,CB r m,Int.mul_add,Int.mul_assoc];omega
theorem Ox{l m:List Int}(h:l.length+m.length<=140737488355328):app 1 l m=some (l++m):=by
 rw[dX (by omega) (by omega)]
theorem join_step F ps l(i:Nat)x(hx:ps[i]?=some x)(hl:l.length+x.length<=140737488355328)(hi:ps.length<=9000000000000000000):qo F ps l i=some (.next (l++x,((i+1:Nat):Int))):=by
 have hlt:i<ps.length:=(gS.1 hx).1;unfold qo;have hd:decide ((i:Int)<len ps)=true:=by simp[len];omega
 rw[pG0 hd,dN,hx];simp only[bs];rw[Ox hl];simp only[bs];rw[wN i (by omega)]
theorem C8 F a b(hF:2<F)(h:a.length+b.length<=140737488355328):qa F [a,b]=some (a++b):=by
 unfold qa;obtain⟨F',rfl⟩:∃F',F=F'+1+1+1:=⟨F-3,by omega⟩;have h1:qo (F'+1+1+1) [a,b] [] 0=some (.next (a,1)):=by simpa using join_step (F'+1+1+1) [a,b] [] 0 a rfl (by simp;omega) (by simp)
 have h2:qo (F'+1+1+1) [a,b] a 1=some (.next (a++b,2)):=by simpa using join_step (F'+1+1+1) [a,b] a 1 b rfl (by omega) (by simp)
 rw[bY h1,bY h2,bF (o:=a++b) (by unfold qo;rw[h9])];rfl
theorem join_one F a(hF:1<F)(h:a.length<=140737488355328):qa F [a]=some a:=by
 unfold qa;obtain⟨F',rfl⟩:∃F',F=F'+1+1:=⟨F-2,by omega⟩;have h1:qo (F'+1+1) [a] [] 0=some (.next (a,1)):=by simpa using join_step (F'+1+1) [a] [] 0 a rfl (by simp;omega) (by simp)
 rw[bY h1,bF (o:=a) (by unfold qo;rw[h9])];rfl
theorem EZ{v}(i:Nat)(hi:i<=8)(_h0:0<=v):Kg .u64 v (aL (8*i))=some (v/256^i):=by
 rw[i7];unfold Kg;rw[f7];have h1:min (8*(i:Int)).toNat IntKind.u64.bits=8*i:=by
  show min (8*(i:Int)).toNat 64=8*i;omega
 rw[h1,show(2:Int)^(8*i)=256^i from by rw[Int.pow_mul];rfl,Int.fdiv_eq_ediv_of_nonneg _ (Int.le_of_lt (LY i))]
structure AR(f:uP):Prop where
 s0:1<=f.bo
 s1:f.bo<=8
 v0:0<=f.Value
 v1:f.Value<18446744073709551616
 v2:f.Value<256^f.bo.toNat
theorem XO F x(hx:AR x)l(hl:l.length<=1000000)(hF:9<F):iter (fun s=>XD F x s.1 s.2) F (l,0)=some (l++zo x.bo.toNat x.Value):=by
 obtain⟨s0,s1,v0,v1,v2⟩:=hx;have:=eG (body:=fun s:List Int×Int=>XD F x s.1 s.2) (fun i=>(l++zo i x.Value,(i:Int))) x.bo.toNat (l++zo x.bo.toNat x.Value) (by
  intro i hi;show XD F x (l++zo i x.Value) i=_;unfold XD;rw[pG0 (by simp;omega),EZ i (by omega) v0];simp only[bs];rw[Ox (by simp[lL];omega)];simp only[bs];rw[wN i (by omega),J8,List.append_assoc];rfl) (by
  show XD F x _ _=_;unfold XD;rw[i4]) F 0 (by omega) (by omega)
 simpa [zo]using this
def lG(fs:List uP):List Int:=(fs.map fun f=>zo f.bo.toNat f.Value).flatten
theorem Cq:∀{fs},(∀f∈fs,AR f)->(lG fs).length<=8*fs.length
 | [],_=>by simp[lG]
 | f::fs,h=>by
   have h1:=h f (by simp);have h2:=Cq (fs:=fs) fun g hg=>h g (by simp[hg]);obtain⟨s0,s1,_⟩:=h1;simp only[lG,mC,List.flatten_cons,lA,lL,lC0]at h2 |-;omega
theorem NC F fs(h:∀f∈fs,AR f)(hn:fs.length<=1000)(hF:fs.length+9<F):q2n F fs=some (lG fs,0):=by
 unfold q2n;have:=eG (body:=fun s:List Int×Int=>ZI F fs s.1 s.2) (fun i=>(lG (fs.take i),(i:Int))) fs.length (.inl (lG fs)) (by
  intro i hi;have hx:fs[i]?=some fs[i]:=gE hi;have hf:=h fs[i] (gM hi);have hlen:=Cq (fs:=fs.take i) (fun f hf=>h f (List.mem_of_mem_take hf));have htl:(fs.take i).length<=i:=by simp;omega
  show ZI F fs (lG (fs.take i)) i=_;unfold ZI;rw[i5,dN,hx];simp only[bs,q2l];obtain⟨s0,s1,v0,v1,v2⟩:=hf;have hsz:(!(decide (fs[i].bo>=1)&&decide (fs[i].bo<=8)))=false:=by simp;omega
  rw[hsz];simp only[Bool.false_eq_true,if_false];have hz:(if decide (fs[i].bo<8)=true then(Kg IntKind.u64 fs[i].Value (aL (8*fs[i].bo))).bind fun qG=>some (qG != 0)else some false)=some false:=by
   by_cases h8:fs[i].bo<8
   .rw[pG0 (by simpa using h8)];have:=EZ (v:=fs[i].Value) fs[i].bo.toNat (by omega) v0;rw[show((fs[i].bo.toNat:Nat):Int)=fs[i].bo from by omega]at this;rw[this,Int.ediv_eq_zero_of_lt v0 v2];rfl
   .grind
  rw[hz];simp only[bs,Bool.false_eq_true,if_false];rw[XO F fs[i] ⟨s0,s1,v0,v1,v2⟩ _ (by omega) (by omega)];simp only[bs,q6s];rw[wN i (by omega),List.take_add_one,hx];simp only[lG,List.map_append,List.flatten_append,Option.toList_some,mC,List.map_nil,List.flatten_cons,List.flatten_nil,List.append_nil]) (by
  show ZI F fs _ _=_;unfold ZI;rw[h9,List.take_length]) F 0 (by omega) (by omega)
 simp only[List.take_zero]at this;have h0:(lG [],((0:Nat):Int))=(([]:List Int),(0:Int)):=rfl;rw[h0]at this;rw[this];rfl
theorem CJ a b i(ha:a<2^i):a ||| (b*2^i)=a+b*2^i:=by
 have h:=Nat.shiftLeft_add_eq_or_of_lt ha b;rw[Nat.shiftLeft_eq]at h;rw[Nat.or_comm,<-h,Nat.add_comm]
theorem Tk i:(256:Int)^i=((2^(8*i):Nat):Int):=by
 rw[Nat.pow_mul,show(2:Nat)^8=256 from by decide];exact(congrArg (fun z:Int=>z^i) (rfl:(256:Int)=((256:Nat):Int))).trans (Int.natCast_pow 256 i).symm
theorem Yf a b i(hi:i<8)(h0:0<=a)(h1:a<256^i)(h2:Byte b):vK .u64 a (b*256^i)=a+b*256^i:=by
 obtain⟨b0,b1⟩:=h2;obtain⟨a,rfl⟩:=Int.eq_ofNat_of_zero_le h0;obtain⟨b,rfl⟩:=Int.eq_ofNat_of_zero_le b0;have hp:=Tk i;rw[hp]at h1 |-;have ha:a<2^(8*i):=by exact_mod_cast h1
 have hb:b<256:=by omega
 have hle:(2:Nat)^(8*i)<=2^56:=Nat.pow_le_pow_right (by decide) (by omega);have hbl:b*2^(8*i)<2^64:=by
  have:b*2^(8*i)<=255*2^56:=Nat.mul_le_mul (by omega) hle;omega
 have hs:a+b*2^(8*i)<2^64:=by
  have:(b+1)*2^(8*i)<=256*2^56:=Nat.mul_le_mul (by omega) hle;rw[Nat.add_mul]at this;omega
 unfold vK;have e:((b:Int)*((2^(8*i):Nat):Int))=((b*2^(8*i):Nat):Int):=by rw[Int.natCast_mul]
 have e2:(BitVec.ofInt IntKind.u64.bits (a:Int) ||| BitVec.ofInt IntKind.u64.bits ((b:Int)*((2^(8*i):Nat):Int))).toNat=a+b*2^(8*i):=by
  rw[e,BitVec.toNat_or];show(BitVec.ofInt 64 (a:Int)).toNat ||| (BitVec.ofInt 64 ((b*2^(8*i):Nat):Int)).toNat=_
  rw[BitVec.toNat_ofInt,BitVec.toNat_ofInt];rw[show(((a:Nat):Int)%((2^64:Nat):Int)).toNat=a from by rw[<-Int.natCast_emod,Int.toNat_natCast,Nat.mod_eq_of_lt (by omega)]];rw[show(((b*2^(8*i):Nat):Int)%((2^64:Nat):Int)).toNat=b*2^(8*i)from by rw[<-Int.natCast_emod,Int.toNat_natCast,Nat.mod_eq_of_lt hbl]];exact CJ a b (8*i) ha
 rw[e2,wrap_u64];unfold wu64;rw[Int.natCast_add,Int.natCast_mul];rw[show((a:Int)+(b:Int)*((2^(8*i):Nat):Int))=((a+b*2^(8*i):Nat):Int)from by rw[Int.natCast_add,Int.natCast_mul]];omega
theorem JL i:(2:Int)^(8*i)=((2^(8*i):Nat):Int):=(congrArg (fun z:Int=>z^(8*i)) (rfl:(2:Int)=((2:Nat):Int))).trans (Int.natCast_pow 2 (8*i)).symm
theorem aa5(x i:Nat)(h1:(x:Int)<256)(hi:i<8):x*2^(8*i)<=255*2^56:=by
 have hle:(2:Nat)^(8*i)<=2^56:=Nat.pow_le_pow_right (by decide) (by omega);exact Nat.mul_le_mul (by omega) hle
theorem Wz(q:Nat)(hb:q<=255*2^56):wu64 (q:Int)=q:=by
 rw[vM (by omega) (by omega)]
theorem R5(x i:Nat)(hi:i<8):Kh .u64 (x:Int) (8*i)=some (IntKind.u64.wrap ((x:Int)*2^(8*i))):=by
 unfold Kh;rw[f7];have e1:min (8*(i:Int)).toNat IntKind.u64.bits=8*i:=by
  show min (8*(i:Int)).toNat 64=8*i;omega
 rw[e1]
theorem O8{x}(hx:Byte x)(i:Nat)(hi:i<8):Kh .u64 (wu64 x) (aL (8*i))=some (x*256^i):=by
 obtain⟨h0,h1⟩:=hx;obtain⟨x,rfl⟩:=Int.eq_ofNat_of_zero_le h0;have e1:aL (8*(i:Int))=8*i:=bW (by omega) (by omega);have e2:wu64 (x:Int)=x:=vM (by omega) (by omega);have e3:=Wz _ (aa5 x i h1 hi);rw[Int.natCast_mul,<-JL]at e3;have e4:(256:Int)^i=2^(8*i):=(Tk i).trans (JL i).symm;rw[e1,e2,R5 x i hi,wrap_u64,e3,e4]
theorem aaT F b(k i:Nat)a p x(hc:decide ((i:Int)<(k:Int))=true)(hx:b[i]?=some x)(hw:aL ((i:Int)+1)=((i+1:Nat):Int))(hs:Kh .u64 (wu64 x) (aL (8*(i:Int)))=some p)(ho:vK .u64 a p=a+p):Wo F b k a i=some (.next (a+p,((i+1:Nat):Int))):=by
 unfold Wo;rw[pG0 hc,dN,hx,bs,hs,bs,ho,hw]
theorem TD(b:List Int)i x(hx:b[i]?=some x)(hlen:(b.take i).length=i):num (b.take (i+1))=num (b.take i)+x*256^i:=by
 rw[List.take_add_one,hx,CB,hlen,Int.mul_comm x];simp only[Option.toList_some,num,Int.mul_zero,Int.add_zero]
theorem WI{b:List Int}{i}(ht:∀x∈b.take i,Byte x)(hlen:(b.take i).length=i):num (b.take i)<256^i:=by
 have h:=Mg ht;rw[hlen]at h;exact h
theorem aef F b(k i:Nat)(hi8:i<8)(hin:i<9223372036854775807)(hc:decide ((i:Int)<(k:Int))=true)x(hx:b[i]?=some x)(hbx:Byte x)(ht:∀x∈b.take i,Byte x)(hlen:(b.take i).length=i):Wo F b k (num (b.take i)) i=some (.next (num (b.take (i+1)),((i+1:Nat):Int))):=
 (aaT F b k i (num (b.take i)) (x*256^i) x hc hx (wN i hin) (O8 hbx i hi8) (Yf _ _ i hi8 (num_nonneg ht) (WI ht hlen) hbx)).trans (by rw[TD b i x hx hlen])
theorem WJ F b(k:Nat)(hk:k<=8)(hl:k<=b.length)(hb:∀x∈b,Byte x)(hF:9<F):iter (fun s=>Wo F b k s.1 s.2) F (0,0)=some (num (b.take k)):=by
 have:=eG (body:=fun s:Int×Int=>Wo F b k s.1 s.2) (fun i=>(num (b.take i),(i:Int))) k (num (b.take k)) (fun i hi=>by
  have hil:i<b.length:=by omega
  exact aef F b k i (by omega) (by omega) (decide_eq_true (by omega)) b[i] (gE hil) (hb _ (gM hil)) (fun x hx=>hb x (List.mem_of_mem_take hx)) (by simp;omega)) (by
  show Wo F b k _ _=_;unfold Wo;rw[f8]) F 0 (by omega) (by omega)
 exact this
def gJ:List Int->List Nat->List Int
 | _,[]=>[]
 | b,k::ks=>num (b.take k)::gJ (b.drop k) ks
def jB(ks:List Nat):List Int:=ks.map fun(k:Nat)=>(k:Int)
def fQ:List Nat->Nat
 | []=>0
 | k::ks=>k+fQ ks
theorem lY:∀a b,fQ (a++b)=fQ a+fQ b
 | [],b=>by simp[fQ]
 | x::a,b=>by simp[fQ,lY a b];omega
theorem ER:∀ks b,(gJ b ks).length=ks.length
 | [],_=>rfl
 | k::ks,b=>by simp[gJ,ER ks]
theorem vP:∀a c b,gJ b (a++c)=gJ b a++gJ (b.drop (fQ a)) c
 | [],c,b=>by simp[gJ,fQ]
 | k::a,c,b=>by simp[gJ,fQ,vP a c,List.drop_drop]
theorem WO{ks}(h:∀k∈ks,1<=k/\k<=8):fQ ks<=8*ks.length:=by
 induction ks with
 | nil=>simp[fQ]
 | cons k ks ih=>
   have h1:=h k (by simp);have h2:=ih fun k hk=>h k (by simp[hk]);simp[fQ];omega
theorem Jf F ks(h:∀k∈ks,1<=k/\k<=8)(hn:ks.length<=1000)(hF:ks.length<F):iter (fun s=>Xz F (jB ks) s.1 s.2) F (0,0)=some (.inl (fQ ks:Int)):=by
 have:=eG (body:=fun s:Int×Int=>Xz F (jB ks) s.1 s.2) (fun i=>((fQ (ks.take i):Int),(i:Int))) ks.length (.inl (fQ ks:Int)) (by
  intro i hi;have hx:ks[i]?=some ks[i]:=gE hi;have hk:=h ks[i] (gM hi);have hs:=WO (ks:=ks.take i) fun k hk=>h k (List.mem_of_mem_take hk);have hlen:(ks.take i).length<=i:=by simp;omega
  show Xz F (jB ks) (fQ (ks.take i):Int) i=_;unfold Xz;rw[pG0 (by simp[len,jB];omega),dN];simp only[jB,List.getElem?_map,hx,Option.map_some,bs,q2l];rw[i4,wN i (by omega),i7,List.take_add_one,hx,lY];simp[fQ]) (by
  show Xz F (jB ks) _ _=_;unfold Xz;rw[nG0 (by simp[len,jB]),List.take_length]) F 0 (by omega) (by omega)
 simpa [fQ]using this
theorem WH F b ks(h:∀k∈ks,1<=k/\k<=8)(hn:ks.length<=1000)(hF:ks.length+9<F)(hb:∀x∈b,Byte x)(hbl:b.length<=140737488355328)(hl:fQ ks<=b.length):q2t F b (jB ks)=some (gJ b ks,b.drop (fQ ks),0):=by
 unfold q2t;rw[Jf F ks h hn (by omega)];simp only[bs,q61];rw[f9];have:=eG (body:=fun s:List Int×List Int×Int=>ZE F (jB ks) s.1 s.2.1 s.2.2) (fun i=>(b.drop (fQ (ks.take i)),gJ b (ks.take i),(i:Int))) ks.length (b.drop (fQ ks),gJ b ks) (by
  intro i hi;have hx:ks[i]?=some ks[i]:=gE hi;have hk:=h ks[i] (gM hi);have hsum:fQ (ks.take i)+ks[i]<=fQ ks:=by
   have e1:fQ (ks.take (i+1))=fQ (ks.take i)+ks[i]:=by rw[List.take_add_one,hx,lY];simp[fQ]
   have e2:fQ ks=fQ (ks.take (i+1))+fQ (ks.drop (i+1)):=by rw[<-lY,List.take_append_drop]
   omega
  have hlen:(ks.take i).length<=i:=by simp;omega
  show ZE F (jB ks) (b.drop (fQ (ks.take i))) (gJ b (ks.take i)) i=_;unfold ZE;rw[pG0 (by simp[len,jB];omega),dN];simp only[jB,List.getElem?_map,hx,Option.map_some,bs];rw[WJ F (b.drop (fQ (ks.take i))) ks[i] hk.2 (by simp;omega) (fun x hx=>hb x (List.mem_of_mem_drop hx)) (by omega)];simp only[bs,q76];rw[dX (by rw[ER];simp;omega) (by decide)];simp only[bs];have hs:=lQ (b.drop (fQ (ks.take i))) ks[i] (b.drop (fQ (ks.take i))).length (by simp;omega) (by omega);rw[lN,hs];simp only[bs,q75,List.take_length,List.drop_drop];rw[wN i (by omega),List.take_add_one,hx,lY,vP];simp[fQ,gJ]) (by
  show ZE F (jB ks) _ _ _=_;unfold ZE;rw[nG0 (by simp[len,jB]),List.take_length]) F 0 (by omega) (by omega)
 simp only[List.take_zero,fQ,List.drop_zero,gJ]at this;have h0:((0:Nat):Int)=0:=rfl;rw[h0]at this;rw[this];simp only[bs,q74];rw[join_one F _ (by omega) (by simp;omega)];rfl
theorem LB F b ks(h:∀k∈ks,1<=k/\k<=8)(hn:ks.length<=1000)(hF:ks.length+9<F)(hl:b.length<fQ ks):q2t F b (jB ks)=some ([],[],3):=by
 unfold q2t;rw[Jf F ks h hn (by omega)];simp only[bs,q61];rw[i5]
theorem dt{p}[Decidable p](h:p):decide p=true:=decide_eq_true h
theorem df{p}[Decidable p](h:¬ p):¬ decide p=true:=fun e=>h (of_decide_eq_true e)
def fidx{α:Type}(p:α->Bool)(l:List α):Int:=match l.findIdx? p with
 | some i=>(i:Int)
 | none=>-1
theorem Db{α γ β:Type}{body:γ×Int->Option (Out (γ×Int) (Sum γ β))}{l:List α}{p c}{g:Int->β}(h:∀(i:Nat) x,l[i]?=some x->body (c,(i:Int))=some (if p x=true then .done (.inr (g (i:Int)))else .next (c,((i+1:Nat):Int))))(he:body (c,(l.length:Int))=some (.done (.inl c))) :
 ∀m F k,l.drop k=m->k<=l.length->m.length<F->iter body F (c,(k:Int))=some (match m.findIdx? p with
  | some i=>.inr (g ((k+i:Nat):Int))
  | none=>.inl c)
 | [],F,k,hd,hk,hF=>by
   have hk2:k=l.length:=by grind
   subst hk2;cases F with
   | zero=>simp at hF
   | succ F=>rw[bF he];rfl
 | x::m,F,k,hd,hk,hF=>by
   have hx:l[k]?=some x:=by
    have:=congrArg (fun z:List α=>z[0]?) hd;simpa using this
   have hlt:=(gS.1 hx).1;have hd2:l.drop (k+1)=m:=by
    have:=congrArg List.tail hd;simpa using this
   have hb:=h k x hx;cases F with
   | zero=>simp at hF
   | succ F=>
     rw[List.findIdx?_cons];by_cases hp:p x=true
     .rw[pG0 hp]at hb;rw[bF hb,pG0 hp];simp
     .rw[nG0 hp]at hb;rw[bY hb,Db h he m F (k+1) hd2 hlt (by simp at hF;omega),nG0 hp];cases m.findIdx? p with
      | none=>rfl
      | some i=>
        simp only[Option.map_some];rw[show k+1+i=k+(i+1) by omega]
theorem lI{α γ β:Type}{body:γ×Int->Option (Out (γ×Int) (Sum γ β))}{l:List α}{p c}{g:Int->β}(h:∀(i:Nat) x,l[i]?=some x->body (c,(i:Int))=some (if p x=true then .done (.inr (g (i:Int)))else .next (c,((i+1:Nat):Int))))(he:body (c,(l.length:Int))=some (.done (.inl c)))
 {F} (hF:l.length<F):iter body F (c,0)=some (match l.findIdx? p with
  | some i=>.inr (g (i:Int))
  | none=>.inl c):=by
 have:=Db h he l F 0 (by simp) (by omega) hF;rw[show((0:Nat):Int)=0 from rfl]at this;rw[this];cases l.findIdx? p with
 | none=>rfl
 | some i=>simp
theorem vg{α}p l:(fidx p l = -1/\l.any p=false)\/∃(i:Nat) (x:α),fidx p l=(i:Int)/\l[i]?=some x/\p x=true/\∀j,j<i->∀y,l[j]?=some y->p y=false:=by
 unfold fidx;cases h:l.findIdx? p with
 | none=>
   refine .inl ⟨rfl,?_⟩;rw[List.findIdx?_eq_none_iff]at h;rw[List.any_eq_false];intro x hx;simp[h x hx]
 | some i=>
   rw[List.findIdx?_eq_some_iff_getElem]at h;obtain⟨h1,h2,h3⟩:=h;refine .inr ⟨i,l[i],rfl,gE h1,h2,fun j hj y hy=>?_⟩;have h4:=h3 j hj;rw[gE (by omega)]at hy;injection hy with hy;rw[<-hy];simpa using h4
theorem tq{α}p(l:List α):decide (fidx p l>=0)=l.any p:=by
 rcases vg p l with⟨h1,h2⟩|⟨i,x,h1,h2,h3,_⟩
 .rw[h1,h2];rfl
 .grind
theorem upd_same{α l}{i:Nat}{x:α}(h:l[i]?=some x):upd l (i:Int) x=some l:=by
 have hlt:=(gS.1 h).1;unfold upd;rw[pG0 (by omega),Int.toNat_natCast];congr 1;apply List.ext_getElem?;intro j;rw[List.getElem?_set];split
 .grind
 .rfl
theorem aX{α l}{i:Nat}{x:α}(h:l[i]?=some x):idx l (i:Int)=some x:=by rw[dN,h]
theorem jA{α:Type}{l:List α}{i x}(h:l[i]?=some x):l.take i++[x]=l.take (i+1):=by
 rw[List.take_add_one,h];rfl
theorem Au F l(hF:l.length<F)(hl:l.length<1000000)(hs:l.flatten.length<=140737488355328):qa F l=some l.flatten:=by
 unfold qa q6g;have:=eG (body:=fun s:List Int×Int=>qo F l s.1 s.2) (fun i=>((l.take i).flatten,(i:Int))) l.length l.flatten (fun i hi=>by
  have hx:l[i]?=some l[i]:=gE hi;have hfl:(l.take i).flatten++l[i]=(l.take (i+1)).flatten:=by rw[<-jA hx,List.flatten_append,List.flatten_singleton]
  have hle:(l.take (i+1)).flatten.length<=l.flatten.length:=by
   have h1:=congrArg (fun z=>(List.flatten z).length) (List.take_append_drop (i+1) l);simp only[List.flatten_append,lA]at h1;omega
  show qo F l _ _=_;unfold qo;rw[i5];simp only[dN,hx,bs];rw[dX (by rw[<-lA,hfl];omega) (by omega)];simp only[bs,hfl,wN i (by omega)]) (by
  show qo F l _ _=_;unfold qo;rw[h9];simp) F 0 (by omega) (by omega)
 rw[List.take_zero,List.flatten_nil,show((0:Nat):Int)=0 from rfl]at this;rw[this];rfl
theorem xG{α k l}(hk:0<k)(h:l.length*k<=140737488355328):app k ([]:List α) l=some l:=by
 rw[dX (by simpa using h) hk,List.nil_append]
structure Sz(m:aJ):Prop where
 Mk:m.ak.length<=1000000
 ask:m.aB.length<=1000000
 chs:m.aj.length<=1000000
 out:m.Out.length<=1000000000
 cout:∀c∈m.aj,c.Out.length<=1000/\c.In.length<=1000000
 crow:∀c∈m.aj,∀s∈c.Out,s.length<=1000000
 pay:∀f∈m.Out,f.am.length<=1000000
 buf:m.ay.aq.length<=1000000000
theorem Ou F l(h:l.length<=1000000):q24 F l=some l:=by
 unfold q24;rw[xG (by omega) (by omega)];rfl
theorem YI F l(h:l.length<=1000000):q42 F l=some l:=by
 unfold q42;rw[xG (by omega) (by omega)];rfl
theorem YK F l(h:l.length<=1000000):q43 F l=some l:=by
 unfold q43;rw[xG (by omega) (by omega)];rfl
theorem YJ F l(h:l.length<=1000000000):q44 F l=some l:=by
 unfold q44;rw[xG (by omega) (by omega)];rfl
theorem Vm F l(hF:1000000000<F)(hl:l.length<=1000)(hs:∀s∈l,s.length<=1000000):q3h F l=some l:=by
 unfold q3h q6h;have:=eG (body:=fun s:List (List Int)×Int=>ZR F l s.1 s.2) (fun i=>(l.take i,(i:Int))) l.length l (fun i hi=>by
  have hx:l[i]?=some l[i]:=gE hi;have hm:=hs _ (gM hi);show ZR F l _ _=_;unfold ZR;rw[i5];simp only[dN,hx,bs];rw[join_one F _ (by omega) (by omega),bs,dX (by simp;omega) (by omega)];simp only[bs,jA hx,wN i (by omega)]) (by
  show ZR F l _ _=_;unfold ZR;rw[h9];simp) F 0 (by omega) (by omega)
 rw[List.take_zero,show((0:Nat):Int)=0 from rfl]at this;rw[this];rfl
theorem wL F m(hF:10000000000<F)(h:Sz m):qg F m=some ⟨m,[]⟩:=by
 unfold qg;rw[Ou F _ h.Mk,YI F _ h.ask,YK F _ h.chs,YJ F _ h.out];simp only[bs];unfold q6k;have h1:=eG (body:=fun s:List aM×Int=>ZP F m s.1 s.2) (fun i=>(m.aj,(i:Int))) m.aj.length m.aj (fun i hi=>by
  have hx:m.aj[i]?=some m.aj[i]:=gE hi;have hm:=h.cout _ (gM hi);have hlen:=h.chs;show ZP F m _ _=_;unfold ZP;rw[i5];simp only[aX hx,bs];rw[Vm F _ (by omega) hm.1 (h.crow _ (gM hi)),bs,join_one F _ (by omega) (by omega),bs];rw[upd_same hx];simp only[bs,aX hx];rw[upd_same hx];simp only[bs,wN i (by omega)]) (by
  show ZP F m _ _=_;unfold ZP;rw[h9]) F 0 (by omega) (by have:=h.chs;omega)
 rw[show((0:Nat):Int)=0 from rfl]at h1;rw[h1,bs];unfold q6j;have h2:=eG (body:=fun s:List bq×Int=>ZQ F m s.1 s.2) (fun i=>(m.Out,(i:Int))) m.Out.length m.Out (fun i hi=>by
  have hx:m.Out[i]?=some m.Out[i]:=gE hi;have hm:=h.pay _ (gM hi);have hlen:=h.out;show ZQ F m _ _=_;unfold ZQ;rw[i5];simp only[aX hx,bs];rw[join_one F _ (by omega) (by omega),bs];rw[upd_same hx];simp only[bs,wN i (by omega)]) (by
  show ZQ F m _ _=_;unfold ZQ;rw[h9]) F 0 (by omega) (by have:=h.out;omega)
 rw[show((0:Nat):Int)=0 from rfl]at h2;rw[h2,bs];unfold q6i;have:=h.buf;rw[join_one F _ (by omega) (by omega)];rfl
def zm:aJ:=⟨0,0,[],[],[],0,⟨false,[]⟩,[],0,0⟩
def je(n:Int):Bool:=decide (n>=23)&&decide (n<=4096)
def countB(n:Int):Bool:=decide (n>=0)&&decide (n<=65535)
def uY(l:List fI)(x:fI):Int:=
 if x.bT=0 then 1
 else if l.any (fun o=>o.bT==x.bT)=true then 7
 else if (je x.dh&&je x.cZ&&countB x.aA&&(decide (x.bh>=0)&&decide (x.bh<=2)))=false then 5
 else 0
def CW(l:List fI):Nat->Nat->Int
 | _,0=>0
 | k,n+1=>match l[k]? with
   | none=>0
   | some x=>if uY (l.take k) x=0 then CW l (k+1) n else uY (l.take k) x
def iJ(role:Int)(l:List fI):aJ×Int:=
 if role≠0/\role≠1 then(zm,1)
 else if l.length>64 then(zm,4)
 else if CW l 0 l.length=0 then(⟨role,0,l,[],[],1,⟨false,[]⟩,[],0,27⟩,0)else(zm,CW l 0 l.length)
theorem acO F l c(hF:l.length<F)(hl:l.length<1000000000):q40 F l c=some (fidx (fun o=>o.bT==c.bT) l,c):=by
 unfold q40 fidx;have k:=lI (body:=fun s:fI×Int=>ZU F l s.1 s.2) (l:=l) (p:=fun o=>o.bT==c.bT) (c:=c) (g:=fun i=>(i,c)) (fun i x hx=>by
  have hlt:=(gS.1 hx).1;show ZU F l _ _=_;unfold ZU q56;rw[i5,aX hx];simp only[bs,wN i (by omega)];split<;>rfl) (by
  show ZU F l _ _=_;unfold ZU;rw[h9]) hF
 rw[k];cases l.findIdx? (fun o=>o.bT==c.bT)<;>rfl
theorem ac2 F l c(hF:l.length<F)(hl:l.length<1000000000):q41 F l c=some (l.any (fun o=>o.bT==c.bT),c):=by grind [q41,acO,bs,tq]
theorem Qe F l(i:Nat)x(hx:l[i]?=some x)(hF:l.length<F)(hl:l.length<1000000000):ZT F l (i:Int)=some (if uY (l.take i) x=0 then .next ((i+1:Nat):Int)else .done (.inr (zm,uY (l.take i) x))):=by
 have hlt:=(gS.1 hx).1;have hsub:sub l 0 (i:Int)=some (l.take i):=by
  have:=lQ l 0 i (by omega) (by omega);rw[show((0:Nat):Int)=0 from rfl]at this;rw[this];simp
 unfold ZT qx qn;rw[i5,aX hx,bs,hsub,bs,ac2 F _ _ (by rw[lT0];omega) (by rw[lT0];omega)];simp only[bs,wN i (by omega)];unfold uY;by_cases h1:x.bT=0
 .rw[pG0 (by simpa using h1),pG0 h1];rfl
 rw[nG0 (by simpa using h1),nG0 h1];by_cases h2:(l.take i).any (fun o=>o.bT==x.bT)=true
 .rw[pG0 h2,pG0 h2];rfl
 rw[nG0 h2,nG0 h2];cases hb1:je x.dh<;>cases hb2:je x.cZ<;>cases hb3:countB x.aA<;>cases hb4:(decide (x.bh>=0)&&decide (x.bh<=2))<;>(unfold je at hb1 hb2;unfold countB at hb3;simp[hb1,hb2,hb3,hb4,zm])
theorem FN{l k n x}(h:l[k]?=some x):CW l k (n+1)=if uY (l.take k) x=0 then CW l (k+1) n else uY (l.take k) x:=by simp only[CW,h]
theorem CG F l(hF:l.length<F)(hl:l.length<1000000000)(body:Int->Option (Out Int (Sum Unit (aJ×Int))))(hb:∀(i:Nat) x,l[i]?=some x->body (i:Int)=some (if uY (l.take i) x=0 then .next ((i+1:Nat):Int)else .done (.inr (zm,uY (l.take i) x))))(he:body (l.length:Int)=some (.done (.inl ()))) :
 ∀(n k f:Nat),k+n=l.length->n<f->iter body f (k:Int)=some (if CW l k n=0 then .inl ()else .inr (zm,CW l k n))
 | 0,k,f,hk,hf=>by
   have:k=l.length:=by omega
   subst this;cases f with
   | zero=>omega
   | succ f=>rw[bF he];rfl
 | n+1,k,f,hk,hf=>by
   have hx:l[k]?=some l[k]:=gE (by omega);have h1:=hb k _ hx;cases f with
   | zero=>omega
   | succ f=>
     rw[FN hx];by_cases h2:uY (l.take k) l[k]=0
     .rw[pG0 h2]at h1;rw[bY h1,pG0 h2];exact CG F l hF hl body hb he n (k+1) f (by omega) (by omega)
     .rw[nG0 h2]at h1;rw[bF h1,nG0 h2,nG0 h2]
theorem Hz F role l(hF:1000<F):q12 F role l=some (iJ role l):=by
 unfold q12 iJ;by_cases h1:role≠0/\role≠1
 .rw[pG0 (by simpa using h1),pG0 h1];rfl
 rw[nG0 (by simpa using h1),nG0 h1];by_cases h2:l.length>64
 .rw[i5,pG0 h2];rfl
 rw[f9,nG0 h2];have k:=CG F l (by omega) (by omega) (fun s=>ZT F l s) (fun i x hx=>Qe F l i x hx (by omega) (by omega)) (by
  show ZT F l _=_;unfold ZT;rw[h9]) l.length 0 F (by omega) (by omega)
 rw[show((0:Nat):Int)=0 from rfl]at k;rw[k];by_cases h3:CW l 0 l.length=0
 .grind [bs,q6f,Ou]
 .grind
theorem Qn{body:Int->Option (Out Int (Sum Unit (aJ×Int)))}{l:List fI}{p e n F}(h:∀(i:Nat) x,i<n->l[i]?=some x->body (i:Int)=some (if p x=true then .done (.inr e)else .next ((i+1:Nat):Int)))(he:body (n:Int)=some (.done (.inl ())))(hn:n<=l.length)(hF:n<F):iter body F 0=some (if (l.take n).any p=true then .inr e else .inl ()):=by
 have hlen:(l.take n).length=n:=by rw[lT0];omega
 have:=Dc (body:=body) (l:=l.take n) (p:=p) (o:=.inr e) (e:=.inl ()) (fun i x hx=>by
  have hlt:=(gS.1 hx).1;rw[hlen]at hlt;rw[List.getElem?_take,pG0 hlt]at hx;exact h i x hlt hx) (by rw[hlen];exact he) F 0 (by omega) (by omega)
 simpa using this
theorem LQ F l(i:Nat)x(hx:l[i]?=some x)(hF:l.length<F)(hl:l.length<1000000000):Zt F l (i:Int)=some (if uY (l.take i) x=0 then .next ((i+1:Nat):Int)else .done (.inr (zm,uY (l.take i) x))):=by
 have hlt:=(gS.1 hx).1;unfold Zt;rw[i5,aX hx,bs];unfold uY;by_cases h1:x.bT=0
 .rw[pG0 (by simpa using h1),pG0 h1];rfl
 rw[nG0 (by simpa using h1),nG0 h1];have k:=Qn (body:=fun s=>Zu F l (i:Int) x s) (l:=l) (p:=fun o=>o.bT==x.bT) (e:=(zm,7)) (n:=i) (F:=F) (fun j y hj hy=>by
  show Zu F l _ x _=_;unfold Zu q89;rw[pG0 (by simp;omega),aX hy];simp only[bs,wN j (by omega)];split<;>rfl) (by
  show Zu F l _ x _=_;unfold Zu;rw[f8]) (by omega) (by omega)
 rw[k];by_cases h2:(l.take i).any (fun o=>o.bT==x.bT)=true
 .grind
 rw[nG0 h2,nG0 h2];simp only[bs];unfold q88 q87 q3x q5t;simp only[bs,wN i (by omega)];have hv:(decide (x.bh>=0)&&decide (x.bh<=2)) = !(decide (x.bh<0)||decide (x.bh>2)):=by grind
 cases hb1:je x.dh<;>cases hb2:je x.cZ<;>cases hb3:countB x.aA<;>cases hb4:decide (x.bh<0)<;>cases hb5:decide (x.bh>2)<;>(unfold je at hb1 hb2;unfold countB at hb3;rw[hv,hb4,hb5];simp[hb1,hb2,hb3,zm])
theorem Nr F role l(hF:1000<F):q3g F role l=some (iJ role l):=by
 unfold q3g iJ;by_cases h1:role≠0/\role≠1
 .rw[pG0 (by simpa using h1),pG0 h1];rfl
 rw[nG0 (by simpa using h1),nG0 h1];by_cases h2:l.length>64
 .rw[i5,pG0 h2];rfl
 rw[f9,nG0 h2];have k:=CG F l (by omega) (by omega) (fun s=>Zt F l s) (fun i x hx=>LQ F l i x hx (by omega) (by omega)) (by
  show Zt F l _=_;unfold Zt;rw[h9]) l.length 0 F (by omega) (by omega)
 rw[show((0:Nat):Int)=0 from rfl]at k;rw[k];by_cases h3:CW l 0 l.length=0
 .grind [bs,q86,xG]
 .grind
def lvl(n:Int):Int:=if n<0 then 0 else if n>2 then 2 else n
theorem Fb F m n(hF:10000000000<F)(h:Sz m):q39 F m n=some {m with bh:=lvl n}:=by
 unfold q39;rw[wL F m hF h];have:imax 0 (cO n 2)=lvl n:=by unfold imax cO lvl;split<;>split<;>(try split)<;>omega
 simp[this]
theorem UD:q1y FF=some true:=by kernel_rfl
namespace Sd
theorem Uc{α:Type}c[Decidable c](a b:α):(if c then some a else some b)=some (if c then a else b):=by split<;>rfl
def lastOf(c:aM):Int:=match c.Out with | []=>0 | s::_=>1+s.length
structure Sm(c:aM):Prop where
 out:c.Out.length<=1000
 each:∀s∈c.Out,s.length<=1000000
 inn:c.In.length<=1000000
theorem U4{α}(l m:List α)(h:l.length=m.length):FY l m=m:=by
 unfold FY;rw[h,List.take_length,<-h,List.drop_length,List.append_nil]
theorem lJ F c(hF:2000<F)(h:Sm c):qt F c=some c:=by
 obtain⟨h1,h2,h3⟩:=h;unfold qt q6u;have:=eG (body:=fun s:List (List Int)×Int=>ZG F c s.1 s.2) (fun i=>(c.Out.take i,(i:Int))) c.Out.length c.Out (fun i hi=>by
  have hx:c.Out[i]?=some c.Out[i]:=gE hi;have hm:=h2 _ (gM hi);show ZG F c _ _=_;unfold ZG;rw[i5];simp only[dN,hx,bs,lN];rw[CO (by omega) (by omega)];simp only[bs];rw[U4 _ _ (by simp),dX (by simp;omega) (by omega)];simp only[bs,jA hx,wN i (by omega)]) (by
  show ZG F c _ _=_;unfold ZG;rw[h9];simp) F 0 (by omega) (by omega)
 rw[List.take_zero,show((0:Nat):Int)=0 from rfl]at this;rw[this];simp only[bs];rw[Au F [c.In] (by simp;omega) (by simp) (by simp;omega)];simp
theorem dR{x}(h1: -1000000000000000000<=x)(h2:x<=1000000000000000000):aL x=x:=bW (by omega) (by omega)
structure Ok(c:aM):Prop where
 ids:¬ (c.ap<64\/c.ap>127\/c.al<64\/c.al>127)
 psm:c.bT≠0
 nV:23<=c.dh/\c.dh<=4096
 mps:23<=c.cZ/\c.cZ<=4096
 L8:23<=c.gu/\c.gu<=4096
 JN:23<=c.bJ/\c.bJ<=4096
 tx:0<=c.aG/\c.aG<=65535
 rx:0<=c.aC/\c.aC<=65535
 given:0<=c.bd/\c.bd<=65535
 few:c.Out.length<=64
 short:∀s∈c.Out,(s.length:Int)<=c.gu
 sent:0<=c.aS/\c.aS<=lastOf c
 want : -1<=c.bi/\c.bi<=c.dh
 inn:(c.bi = -1->c.In.length=0)/\(c.bi>=0->(c.In.length:Int)<c.bi)
def fm(s:List Int):List Int:=[(s.length:Int)%256,(s.length:Int)/256]++s
theorem Jw F s(hF:5<F)(hs:s.length<=4096):q4c F s=some (fm s):=by
 unfold q4c fm;have e1:BO (len s) 8=(s.length:Int)/256:=by
  unfold BO;rw[lN,show(2:Int)^8=256 by decide,Int.fdiv_eq_ediv_of_nonneg _ (by omega)]
 have e2:lg (len s)=(s.length:Int)%256:=rfl;have e3:lg ((s.length:Int)/256)=(s.length:Int)/256:=Gx (by omega) (by omega);rw[e1,e2,e3,Au F _ (by simp;omega) (by simp) (by simp;omega)];simp
theorem mV s:(fm s).length=s.length+2:=by simp[fm]
def partOf(c:aM)(s:List Int):List Int:=((fm s).drop c.aS.toNat).take c.bJ.toNat
def lH(c:aM)(s:List Int)(r:List (List Int)):aM:=
 if c.aS+c.bJ>=s.length+2 then {c with aG:=c.aG-1,Out:=r,aS:=0}else {c with aG:=c.aG-1,aS:=c.aS+c.bJ}
theorem Sb F c l s r(hF:5<F)(hl:l.length<=1000000)(h:Ok c)(ho:c.Out=s::r)(ht:c.aG>0) :
 q4d F c l=some (lH c s r,l++[partOf c s]):=by
 have hsl:=h.short s (by rw[ho];simp);have hp:=h.L8;have hm:=h.JN;have hse:=h.sent;have htx:=h.tx;rw[show lastOf c=1+s.length by unfold lastOf;rw[ho]]at hse;unfold q4d;have hL:len (fm s)=s.length+2:=by rw[lN,mV];omega
 have e1:imax 0 (cO c.aS (len (fm s)))=c.aS:=by unfold imax cO;rw[hL];split<;>split<;>omega
 have e2:aL (len (fm s)-c.aS)=s.length+2-c.aS:=by rw[hL,dR (by omega) (by omega)]
 have e3:imax 1 (cO c.bJ (s.length+2-c.aS))=min c.bJ (s.length+2-c.aS):=by unfold imax cO;split<;>split<;>omega
 have e4:cO (min c.bJ (s.length+2-c.aS)) (s.length+2-c.aS)=((min c.bJ (s.length+2-c.aS)).toNat:Int):=by unfold cO;split<;>omega
 have e5:aL (c.aS+min c.bJ (s.length+2-c.aS))=c.aS+min c.bJ (s.length+2-c.aS):=dR (by omega) (by omega);have e6:aL (c.aG-1)=c.aG-1:=dR (by omega) (by omega);have e7:sub (fm s) c.aS (len (fm s))=some ((fm s).drop c.aS.toNat):=by
  have:=lQ (fm s) c.aS.toNat (fm s).length (by rw[mV];omega) (by omega);rw[List.take_length,show((c.aS.toNat:Nat):Int)=c.aS by omega]at this;exact this
 have e8:FY (List.replicate (min c.bJ (s.length+2-c.aS)).toNat 0) ((fm s).drop c.aS.toNat)=partOf c s:=by
  unfold FY partOf;have hd:(List.replicate (min c.bJ (s.length+2-c.aS)).toNat (0:Int)).drop ((fm s).drop c.aS.toNat).length=[]:=List.drop_of_length_le (by rw[List.length_replicate,List.length_drop,mV];omega);rw[hd,List.length_replicate,List.append_nil];by_cases hc:c.bJ<=s.length+2-c.aS
  .grind
  .rw[List.take_of_length_le (by rw[List.length_drop,mV];omega),List.take_of_length_le (by rw[List.length_drop,mV];omega)]
 rw[show idx c.Out 0=some s by rw[ho];rfl,bs,Jw F s hF (by omega),bs];simp only[e1,e2,e3];rw[e4,CO (by omega) (by omega),bs,e7,bs,e8,dX (by simp;omega) (by omega),bs,e5,e6,hL];unfold lH;by_cases hc:c.aS+c.bJ>=s.length+2
 .have hsub:sub c.Out 1 (len c.Out)=some r:=by
   have:=lQ c.Out 1 c.Out.length (by rw[ho];simp) (by omega);rw[List.take_length,ho]at this;rw[ho];exact this
  rw[pG0 (by simp;omega),hsub,bs,pG0 hc]
 .grind
theorem Mf{c s r}(h:Ok c)(hs:Sm c)(ho:c.Out=s::r)(ht:c.aG>0):Ok (lH c s r)/\Sm (lH c s r)/\(lH c s r).aG=c.aG-1:=by
 obtain⟨a1,a2,b1,b2,b3,b4,b5,b6,b7,a4,a5,c1,c2,c3⟩:=h;obtain⟨s1,s2,s3⟩:=hs;rw[show lastOf c=1+s.length by unfold lastOf;rw[ho]]at c1;rw[ho]at a4 a5 s1 s2;simp only[lC0]at a4 s1;unfold lH;by_cases hc:c.aS+c.bJ>=s.length+2
 .rw[pG0 hc];refine⟨⟨a1,a2,b1,b2,b3,b4,by simp only;omega,b6,b7,by simp only;omega,fun x hx=>a5 x (List.mem_cons_of_mem _ hx),?_,c2,c3⟩,⟨by simp only;omega,fun x hx=>s2 x (List.mem_cons_of_mem _ hx),s3⟩,rfl⟩;unfold lastOf;simp only
  cases r with
  | nil=>simp
  | cons y r=>simp only;omega
 .rw[nG0 hc];refine⟨⟨a1,a2,b1,b2,b3,b4,by simp only;omega,b6,b7,by simp only[ho,lC0];omega,by simp only[ho];exact a5,?_,c2,c3⟩,⟨by simp only[ho,lC0];omega,by simp only[ho];exact s2,s3⟩,rfl⟩;unfold lastOf;simp only[ho];omega
theorem Vq a b(ha:Byte a)(hb:Byte b):vK .i64 a (b*256)=a+256*b:=by
 obtain⟨a,rfl⟩:=Int.eq_ofNat_of_zero_le ha.1;obtain⟨b,rfl⟩:=Int.eq_ofNat_of_zero_le hb.1;have h1:=ha.2;have h2:=hb.2;unfold vK;rw[show((b:Int)*256)=((b*256:Nat):Int) by omega];rw[BitVec.ofInt_natCast,BitVec.ofInt_natCast,BitVec.toNat_or,BitVec.toNat_ofNat,BitVec.toNat_ofNat];rw[Nat.mod_eq_of_lt (show a<2^IntKind.i64.bits by simp[IntKind.bits];omega),Nat.mod_eq_of_lt (show b*256<2^IntKind.i64.bits by simp[IntKind.bits];omega)];rw[Nat.or_comm,show b*256=b <<< 8 by rw[Nat.shiftLeft_eq],<-Nat.shiftLeft_add_eq_or_of_lt (by omega),wrap_i64,Nat.shiftLeft_eq,dR (by omega) (by omega)];omega
theorem shl8{y}(hy:Byte y):mJ .i64 (aL y) 8=y*256:=by
 unfold Byte at hy;unfold mJ;rw[wrap_i64,dR (x:=y) (by omega) (by omega),show(2:Int)^8=256 by decide,dR (by omega) (by omega)]
def grown(c:aM)(part:List Int)(want:Int):aM×List (List Int)×Int:=
 if len (c.In++part)<want then({c with aC:=aL (c.aC-1),In:=c.In++part,bi:=want},[],0)
 else({c with aC:=aL (c.aC-1),In:=[],bi:=(-1)},[c.In++part],0)
theorem Kw{c part want}(hs:Sm c)(h:Ok c)(hr:c.aC≠0)(h0:0<=want)(h1:want<=c.dh):Ok (grown c part want).1/\Sm (grown c part want).1/\(grown c part want).2.1.length<=1:=by
 obtain⟨a1,a2,b1,b2,b3,b4,b5,b6,b7,a4,a5,c1,c2,c3⟩:=h;have e:aL (c.aC-1)=c.aC-1:=dR (by omega) (by omega);unfold grown;rw[e];by_cases hl:len (c.In++part)<want
 .rw[pG0 hl];have hl':((c.In++part).length:Int)<want:=hl;refine⟨⟨a1,a2,b1,b2,b3,b4,b5,?_,b7,a4,a5,c1,?_,?_⟩,⟨hs.out,hs.each,?_⟩,by simp⟩
  .grind
  .grind
  .grind
  .grind
 .rw[nG0 hl];refine⟨⟨a1,a2,b1,b2,b3,b4,b5,?_,b7,a4,a5,c1,?_,?_⟩,⟨hs.out,hs.each,by simp⟩,by simp⟩
  .grind
  .grind
  .grind
theorem Pb F c part want(hF:5000<F)(hs:Sm c)(hp:part.length<=1000000):((qa F [c.In,part]).bind fun uG=>
 if (decide (len uG<want))=true then
  some ({c with aC:=aL (c.aC-1),In:=uG,bi:=want},[],0)
 else
  some ({c with aC:=aL (c.aC-1),In:=[],bi:=(-1)},[uG],0))=some (grown c part want):=by
 have:=hs.inn;rw[Au F _ (by simp;omega) (by simp) (by simp;omega)];simp only[bs,decide_eq_true_eq,List.flatten_cons,List.flatten_nil,List.append_nil];exact Uc _ _ _
def tkn(c:aM)(b:List Int):List Int×Int×Int:=
 if c.aC=0 then([],0,19)else if len b>c.cZ then([],0,4)
 else if c.bi = -1 then(match b with
  | x::y::r=>if x+256*y>c.dh\/(r.length:Int)>x+256*y then([],0,4)else(r,x+256*y,0)
  | _=>([],0,3))
 else if len b=0 then([],0,3)else if len c.In+len b>c.bi then([],0,4)else(b,c.bi,0)
theorem WQ(x y:Int)r:sub (x::y::r) 2 (len (x::y::r))=some r:=by
 have:=lQ (x::y::r) 2 (x::y::r).length (by simp) (by simp);rw[List.take_length]at this;exact this
theorem WE(x y:Int)r(h:r.length<=65536):aL (len (x::y::r)-2)=r.length:=by
 rw[lN,lC0,lC0,dR (by omega) (by omega)];omega
theorem BJ F c b(hs:Sm c)(hb:b.length<=65536)(hB:∀x∈b,Byte x)(h:Ok c):q4z F c b=some (tkn c b):=by
 unfold q4z tkn;have hrx:=h.rx;have hlb:=lN b;have hli:=lN c.In;have hin:=hs.inn;by_cases h2:c.aC=0
 .rw[pG0 (by simp[h2]),pG0 h2]
 rw[i4,nG0 h2];by_cases h3:len b>c.cZ
 .rw[pG0 (by simpa using h3),pG0 h3]
 rw[nG0 (by simpa using h3),nG0 h3];by_cases h4:c.bi = -1
 .rw[nG0 (by simpa using h4),pG0 h4]
  match b,hB,hb with
  | [],_,_=>rfl
  | [x],_,_=>rfl
  | x::y::r,hB,hb=>
    have hx:=hB x (by simp);have hy:=hB y (by simp);have hr:r.length<=65536:=by simp at hb;omega
    rw[nG0 (c:=decide (len (x::y::r)<2)=true) (by rw[decide_eq_true_eq,lN,lC0,lC0];omega),show idx (x::y::r) 0=some x from rfl,show idx (x::y::r) 1=some y from rfl,bs,bs,shl8 hy];have hx':aL x=x:=dR (by have:=hx.1;omega) (by have:=hx.2;omega);rw[hx',Vq x y hx hy];unfold q7h;rw[WE x y r hr,WQ,bs];by_cases h6:x+256*y>c.dh\/(r.length:Int)>x+256*y
    .rw[pG0 (by simp;omega)];simp only[if_pos h6]
    .rw[i4];simp only[if_neg h6]
 .rw[pG0 (by simpa using h4),nG0 h4];by_cases h5:len b=0
  .rw[pG0 (by simpa using h5),pG0 h5]
  rw[nG0 (by simpa using h5),nG0 h5,dR (x:=len c.In+len b) (by omega) (by omega)];by_cases h6:len c.In+len b>c.bi
  .rw[pG0 (by simpa using h6),pG0 h6]
  .rw[nG0 (by simpa using h6),nG0 h6];rfl
theorem Ok.sm{c}(h:Ok c):Sm c:=by
 have h1:=h.few;have h2:=h.short;have h3:=h.L8;have h4:=h.want;have h5:=h.inn;have h6:=h.nV;refine⟨by omega,fun s hs=>by have:=h2 s hs;omega,?_⟩;by_cases h7:c.bi = -1
 .have:=h5.1 h7;omega
 .grind
end Sd
namespace Fr
theorem dt{p}[Decidable p](h:p):decide p=true:=decide_eq_true h
theorem df{p}[Decidable p](h:¬ p):¬ decide p=true:=fun e=>h (of_decide_eq_true e)
structure FOk(f:bq):Prop where
 c0:0<=f.aY
 c1:f.aY<65536
def bytesOf(f:bq):List Int:=zo 2 f.am.length++(zo 2 f.aY++f.am)
def enc(f:bq):List Int×Int:=
 if f.aY=0 then([],1)else if 65531<f.am.length then([],4)else(bytesOf f,0)
theorem acX{f}(h:FOk f):q4g FF f=some (enc f):=by
 obtain⟨c0,c1⟩:=h;unfold q4g enc;by_cases h0:f.aY=0
 .grind
 rw[nG0 (by simpa using h0),nG0 h0];by_cases h1:65531<f.am.length
 .rw[pG0 (dt (show len f.am>65531 from by rw[lN];omega)),pG0 h1]
 rw[nG0 (df (show ¬ len f.am>65531 from by rw[lN];omega)),nG0 h1];have e1:wu64 (len f.am)=f.am.length:=vM (by simp[len]) (by simp[len];omega);have e2:wu64 f.aY=f.aY:=vM (by omega) (by omega);rw[e1,e2,NC FF [⟨2,f.am.length⟩,⟨2,f.aY⟩] (fun g hg=>by
  simp only[List.mem_cons,List.not_mem_nil,or_false]at hg;rcases hg with rfl|rfl
  .exact⟨by show(1:Int)<=2;decide,by show(2:Int)<=8;decide,by simp only;omega,by simp only;omega,by show(f.am.length:Int)<256^2;rw[show(256:Int)^2=65536 from by decide];omega⟩
  .exact⟨by show(1:Int)<=2;decide,by show(2:Int)<=8;decide,by simp only;omega,by simp only;omega,by show f.aY<256^2;rw[show(256:Int)^2=65536 from by decide];omega⟩) (by simp) (by unfold FF;simp)]
 simp only[bs];have e3:lG [⟨2,f.am.length⟩,⟨2,f.aY⟩]=zo 2 f.am.length++zo 2 f.aY:=by simp[lG]
 rw[f8,e3,C8 FF _ _ (by unfold FF;omega) (by simp[lL];omega)];simp[bytesOf]
theorem Ie{x}(hx:Byte x):mJ .i64 (aL x) 8=x*256:=by
 obtain⟨h0,h1⟩:=hx;unfold mJ;rw[wrap_i64,bW (x:=x) (by omega) (by omega),show(2:Int)^8=256 by decide,i7]
theorem Qr{x}(hx:Byte x):mJ .u16 (kW x) 8=x*256:=by
 obtain⟨h0,h1⟩:=hx;unfold mJ;rw[wrap_u16,jJ (x:=x) (by omega) (by omega),show(2:Int)^8=256 by decide,jJ (by omega) (by omega)]
theorem zl a b(ha:a<256):a ||| (b*256)=a+b*256:=by
 have h:=Nat.shiftLeft_add_eq_or_of_lt (i:=8) (show a<2^8 by omega) b;rw[Nat.shiftLeft_eq]at h;rw[Nat.or_comm,show(256:Nat)=2^8 from rfl,<-h,Nat.add_comm]
theorem Hu{x y}(hx:Byte x)(hy:Byte y):vK .i64 (aL x) (y*256)=x+256*y:=by
 obtain⟨h0,h1⟩:=hx;obtain⟨g0,g1⟩:=hy;rw[i7];obtain⟨x,rfl⟩:=Int.eq_ofNat_of_zero_le h0;obtain⟨y,rfl⟩:=Int.eq_ofNat_of_zero_le g0;unfold vK;have e:(BitVec.ofInt IntKind.i64.bits (x:Int) ||| BitVec.ofInt IntKind.i64.bits ((y:Int)*256)).toNat=x+y*256:=by
  rw[show((y:Int)*256)=((y*256:Nat):Int)from by rw[Int.natCast_mul];rfl,BitVec.toNat_or];show(BitVec.ofInt 64 (x:Int)).toNat ||| (BitVec.ofInt 64 ((y*256:Nat):Int)).toNat=_
  rw[BitVec.toNat_ofInt,BitVec.toNat_ofInt];rw[show(((x:Nat):Int)%((2^64:Nat):Int)).toNat=x from by rw[<-Int.natCast_emod,Int.toNat_natCast,Nat.mod_eq_of_lt (by omega)]];rw[show(((y*256:Nat):Int)%((2^64:Nat):Int)).toNat=y*256 from by rw[<-Int.natCast_emod,Int.toNat_natCast,Nat.mod_eq_of_lt (by omega)]];exact zl x y (by omega)
 rw[e,wrap_i64,i7];omega
theorem PY{x y}(hx:Byte x)(hy:Byte y):vK .u16 (kW x) (y*256)=x+256*y:=by
 obtain⟨h0,h1⟩:=hx;obtain⟨g0,g1⟩:=hy;rw[jJ (by omega) (by omega)];obtain⟨x,rfl⟩:=Int.eq_ofNat_of_zero_le h0;obtain⟨y,rfl⟩:=Int.eq_ofNat_of_zero_le g0;unfold vK;have e:(BitVec.ofInt IntKind.u16.bits (x:Int) ||| BitVec.ofInt IntKind.u16.bits ((y:Int)*256)).toNat=x+y*256:=by
  rw[show((y:Int)*256)=((y*256:Nat):Int)from by rw[Int.natCast_mul];rfl,BitVec.toNat_or];show(BitVec.ofInt 16 (x:Int)).toNat ||| (BitVec.ofInt 16 ((y*256:Nat):Int)).toNat=_
  rw[BitVec.toNat_ofInt,BitVec.toNat_ofInt];rw[show(((x:Nat):Int)%((2^16:Nat):Int)).toNat=x from by rw[<-Int.natCast_emod,Int.toNat_natCast,Nat.mod_eq_of_lt (by omega)]];rw[show(((y*256:Nat):Int)%((2^16:Nat):Int)).toNat=y*256 from by rw[<-Int.natCast_emod,Int.toNat_natCast,Nat.mod_eq_of_lt (by omega)]];exact zl x y (by omega)
 rw[e,wrap_u16,jJ (by omega) (by omega)];omega
def hd:List Int->Int×Int
 | a::b::c::d::_=>(a+256*b,c+256*d)
 | _=>(0,0)
theorem four{b:List Int}(h:4<=b.length):∃x y z u r,b=x::y::z::u::r:=by
 match b,h with
 | x::y::z::u::r,_=>exact⟨x,y,z,u,r,rfl⟩
theorem Qs{b}(hb:∀x∈b,Byte x)(h:4<=b.length):q4h FF b=some (hd b):=by
 obtain⟨x,y,z,u,r,rfl⟩:=four h;have hx:=hb x (by simp);have hy:=hb y (by simp);have hz:=hb z (by simp);have hu:=hb u (by simp);unfold q4h;rw[show idx (x::y::z::u::r) 0=some x from rfl,bs,show idx (x::y::z::u::r) 1=some y from rfl,bs,
  show idx (x::y::z::u::r) 2=some z from rfl,bs,show idx (x::y::z::u::r) 3=some u from rfl,bs,
  Ie hy,Qr hu,Hu hx hy,PY hz hu]
 rfl
theorem sub4{b:List Int}(h:4<=b.length):sub b 4 (len b)=some (b.drop 4):=by
 rw[lN,show(4:Int)=((4:Nat):Int)from rfl,lQ b 4 b.length h (lR _),List.take_length]
theorem jH f:(bytesOf f).length=f.am.length+4:=by simp[bytesOf,lL];omega
theorem Iy{f}(h:∀x∈f.am,Byte x):∀x∈bytesOf f,Byte x:=by grind [bytesOf,CV]
theorem MV{f}:bytesOf f=(f.am.length:Int)%256::(f.am.length:Int)/256%256::f.aY%256::f.aY/256%256::f.am:=rfl
theorem Mx{f}(h:FOk f)(hl:f.am.length<=65531):hd (bytesOf f)=((f.am.length:Int),f.aY):=by
 obtain⟨c0,c1⟩:=h;rw[MV];simp only[hd];congr 1<;>omega
def az:kV:=⟨false,[]⟩
structure Val(a:kV):Prop where
 off:a.On=false->a.aq=[]
 on:a.On=true->a.aq≠[]
 hdr:a.On=true->4<=a.aq.length->(hd a.aq).2≠0/\(hd a.aq).1<=65531/\(a.aq.length:Int)-4<(hd a.aq).1
 xQ:∀x∈a.aq,Byte x
theorem Val.len{a}(h:Val a):a.aq.length<=65535:=by
 cases ho:a.On with
 | false=>rw[h.off ho];simp
 | true=>
   rcases Nat.lt_or_ge a.aq.length 4 with h4|h4
   .omega
   .have:=h.hdr ho h4;omega
theorem BG:Val az:=⟨fun _=>rfl,(fun h=>by cases h),(fun h=>by cases h),fun x hx=>by simp[az]at hx⟩
def Oi(b:List Int)(e:Int):kV×List bq×Int:=
 if b.length<4 then(⟨true,b⟩,[],e)
 else if (hd b).2=0 then(az,[],if e=0 then 1 else e)
 else if 65531<(hd b).1\/(hd b).1<(b.length:Int)-4 then(az,[],if e=0 then 4 else e)
 else if (b.length:Int)-4<(hd b).1 then(⟨true,b⟩,[],e)
 else(az,[⟨(hd b).2,b.drop 4⟩],e)
theorem Og{b}(hb:∀x∈b,Byte x)(hne:b≠[])e:Val (Oi b e).1:=by
 unfold Oi;split
 .rename_i h0;exact⟨(fun h=>by cases h),fun _=>hne,(fun _ h=>by simp only at h;omega),hb⟩
 .split
  .exact BG
  .rename_i h1;split
   .exact BG
   .rename_i h2;split
    .rename_i h3;exact⟨(fun h=>by cases h),fun _=>hne,fun _ _=>⟨h1,by simp only;omega,h3⟩,hb⟩
    .exact BG
theorem MJ b e:(Oi b e).2.1.length<=1:=by grind [Oi]
theorem Oe e x:q5g FF e x=some (az,[],if e=0 then x else e):=by
 unfold q5g;by_cases h:e=0
 .rw[pG0 (show(e==0)=true from by simpa using h),pG0 h];rfl
 .rw[nG0 (show ¬ (e==0)=true from by simpa using h),nG0 h];rfl
theorem acN{b}(hb:∀x∈b,Byte x)(hl:b.length<=1000000)e:q4i FF b e=some (Oi b e):=by
 unfold q4i Oi;by_cases h0:b.length<4
 .rw[pG0 (dt (show len b<4 from by rw[lN];omega)),pG0 h0]
 rw[nG0 (df (show ¬ len b<4 from by rw[lN];omega)),nG0 h0,Qs hb (by omega),bs];have ew:aL (len b-4)=(b.length:Int)-4:=bW (by rw[lN];omega) (by rw[lN];omega);rw[ew];by_cases h1:(hd b).2=0
 .grind [hd,Oe]
 rw[nG0 (show ¬ ((hd b).2==0)=true from by simpa using h1),nG0 h1];by_cases h2:65531<(hd b).1\/(hd b).1<(b.length:Int)-4
 .grind [hd,Oe]
 rw[nG0 (show ¬ (decide ((hd b).1>65531)||decide ((b.length:Int)-4>(hd b).1))=true from by simpa using h2),nG0 h2]
 by_cases h3:(b.length:Int)-4<(hd b).1
 .grind
 rw[nG0 (show ¬ decide ((b.length:Int)-4<(hd b).1)=true from by simpa using h3),nG0 h3,sub4 (by omega),bs,join_one FF _ (by unfold FF;omega) (by simp;omega)];rfl
def feed(a:kV)(p:eY):kV×List bq×Int:=
 if p.dV=1/\p.am=[]then(a,[],0)
 else if (p.dV≠1/\p.dV≠2)\/p.am=[]then(a,[],12)
 else if p.dV=2 then Oi p.am (if a.On=true then 13 else 0)
 else if a.On=false then(az,[],13)
 else Oi (a.aq++p.am) 0
theorem J7(l:List Int):(len l==0)=decide (l=[]):=by
 cases l with
 | nil=>rfl
 | cons x r=>
   have h1:(len (x::r)==0)=false:=by
    rw[beq_eq_false_iff_ne,lN,lC0];omega
   rw[h1];simp
theorem lJ{a}(h:a.aq.length<=140737488355328):q2q FF a=some a:=by
 unfold q2q q72;rw[join_one FF _ (by unfold FF;omega) h];rfl
theorem Yx{a p}(ha:Val a)(hp:∀x∈p.am,Byte x)(hl:p.am.length<=200000):q3l FF a p=some (feed a p):=by
 have hal:=ha.len;have hc:=lJ (a:=a) (by omega);unfold q3l feed;rw[J7 p.am,J7 a.aq];have hemp:((!a.On)&&decide (a.aq=[])) = !a.On:=by
  cases ho:a.On with
  | false=>simp[ha.off ho]
  | true=>simp
 rw[hemp];by_cases h0:p.dV=1/\p.am=[]
 .grind
 rw[nG0 (show ¬ ((p.dV==1)&&decide (p.am=[]))=true from by simpa using h0),nG0 h0];by_cases h1:(p.dV≠1/\p.dV≠2)\/p.am=[]
 .grind
 rw[nG0 (show ¬ (((p.dV != 1)&&(p.dV != 2))||decide (p.am=[]))=true from by simpa using h1),nG0 h1]
 have j1:∀(x:Int) (b:List Int),(∀x∈b,Byte x)->b.length<=1000000->q5h FF x b=some (Oi b x):=fun x b hb hbl=>by grind [q5h,acN]
 have j2:∀x,q5i FF p x=some (Oi p.am x):=fun x=>by grind [q5i,join_one,FF,bs]
 by_cases h2:p.dV=2
 .grind
 rw[nG0 (show ¬ (p.dV==2)=true from by simpa using h2),nG0 h2];cases ho:a.On with
 | false=>rfl
 | true=>
   rw[nG0 (by decide),nG0 (by decide),C8 FF _ _ (by unfold FF;omega) (by omega),bs,j1 0 _ (fun x hx=>(List.mem_append.1 hx).elim (ha.xQ x) (hp x)) (by simp;omega)]
theorem Dn{a p}(ha:Val a)(hp:∀x∈p.am,Byte x):Val (feed a p).1:=by
 unfold feed;split
 .exact ha
 .split
  .exact ha
  .rename_i h1;have hne:p.am≠[]:=fun h=>h1 (.inr h);split
   .exact Og hp hne _
   .split
    .exact BG
    .exact Og (fun x hx=>(List.mem_append.1 hx).elim (ha.xQ x) (hp x)) (by simp[hne]) _
theorem KF a p:(feed a p).2.1.length<=1:=by grind [feed,MJ]
end Fr
structure agQ where
 Known:Bool
 bT:Bool
 ab:Bool
 bK:Bool
 aaj:Bool
 aA:Bool
 Result:Bool
 ao:Bool
namespace Sg
theorem kinds(k:Int):k=1\/k=6\/k=7\/k=18\/k=19\/k=20\/k=21\/k=22\/(k≠1/\k≠6/\k≠7/\k≠18/\k≠19/\k≠20/\k≠21/\k≠22):=by omega
def aI(k:Int):agQ:=
 if k=1\/k=19 then⟨true,false,false,false,false,false,true,false⟩
 else if k=6\/k=7 then⟨true,false,true,true,false,false,false,false⟩
 else if k=18 then⟨true,false,false,false,false,false,false,true⟩
 else if k=20 then⟨true,true,true,false,true,true,false,false⟩
 else if k=21 then⟨true,false,true,false,true,true,true,false⟩
 else if k=22 then⟨true,false,true,false,false,true,false,false⟩
 else⟨false,false,false,false,false,false,false,false⟩
theorem CZ F k:q2f F k=some (aI k).Known:=by
 rcases kinds k with rfl|rfl|rfl|rfl|rfl|rfl|rfl|rfl|h
 any_goals rfl
 obtain⟨h1,h2,h3,h4,h5,h6,h7,h8⟩:=h;simp[q2f,Wq,aI,h1,h2,h3,h4,h5,h6,h7,h8]
def xU(u:jP):Bool:=((u.bQ==0)&&((u.aZ==0)&&((u.aE==0)&&((u.aO==0)&&(u.bc==0)))))
def fH(s:aQ):Bool:=
 ((aI s.ae).bT||s.bT==0)&&((aI s.ae).ab||s.ab==0)&&((aI s.ae).bK||s.bK==0)&&((aI s.ae).aaj||(s.dh==0&&s.cZ==0))&&((aI s.ae).aA||s.aA==0)&&((aI s.ae).Result||s.Result==0) &&
   ((aI s.ae).ao||xU s.ao)
theorem GA F s:∃x,q48 F s=some x/\((s.ae==x.ae)&&((s.ID==x.ID)&&((s.bT==x.bT)&&((s.ab==x.ab)&&((s.bK==x.bK)&&((s.dh==x.dh)&&((s.cZ==x.cZ)&&((s.aA==x.aA)&&((s.Result==x.Result)&&((s.ao.bQ==x.ao.bQ)&&((s.ao.aZ==x.ao.aZ)&&((s.ao.aE==x.ao.aE)&&((s.ao.aO==x.ao.aO)&&(s.ao.bc==x.ao.bc))))))))))))))=fH s:=by
 obtain⟨k,id,p,so,de,mt,mp,cr,re,⟨u1,u2,u3,u4,u5⟩⟩:=s;rcases kinds k with rfl|rfl|rfl|rfl|rfl|rfl|rfl|rfl|h
 any_goals
  refine⟨_,rfl,?_⟩;simp[fH,aI,xU,Bool.and_assoc]
 .obtain⟨h1,h2,h3,h4,h5,h6,h7,h8⟩:=h;refine⟨_,by simp only[q48,h1,h2,h3,h4,h5,h6,h7,h8,beq_iff_eq,if_false];rfl,?_⟩;simp[fH,aI,xU,Bool.and_assoc,h1,h2,h3,h4,h5,h6,h7,h8]
def lq(s:aQ):Bool:=!(aI s.ae).Result||(if s.ae=1 then((s.Result==0)||(s.Result==2))else if s.ae=19 then((s.Result==0)||(s.Result==1))else(((((s.Result==0)||(s.Result==2))||(s.Result==4))||(s.Result==5))||(s.Result==9)))
theorem PE F s:q3j F s=some (lq s):=by
 obtain⟨k,id,p,so,de,mt,mp,cr,re,u⟩:=s;rcases kinds k with rfl|rfl|rfl|rfl|rfl|rfl|rfl|rfl|h
 any_goals rfl
 .grind [q3j,q3i,lq,aI]
 .grind [q3j,lq,aI]
def mO(n:Int):Bool:=(decide (n>=64))&&(decide (n<=127))
def Zl(n:Int):Bool:=(decide (n>=23))&&(decide (n<=4096))
def iV(s:aQ):Bool:=(!(aI s.ae).ab||mO s.ab)&&(!(aI s.ae).bK||mO s.bK)&&(!(aI s.ae).aaj||(Zl s.dh&&Zl s.cZ))&&(!(aI s.ae).aA||((decide (s.aA>=(if s.ae=22 then 1 else 0)))&&(decide (s.aA<=65535))))
theorem PK F s:q16 F s=some (iV s):=by
 obtain⟨k,id,p,so,de,mt,mp,cr,re,u⟩:=s;rcases kinds k with rfl|rfl|rfl|rfl|rfl|rfl|rfl|rfl|h
 .rfl
 .grind [q16,XE,qp,iV,aI,mO]
 .grind [q16,XE,qp,iV,aI,mO]
 .rfl
 .rfl
 .simp only[q16,XE,q3k,qp,q2h,iV,aI,mO,Zl];cases (decide (so>=64))&&(decide (so<=127))<;>cases (decide (mt>=23))&&(decide (mt<=4096))<;>simp[Bool.and_assoc]
 .simp only[q16,XE,q3k,qp,q2h,iV,aI,mO,Zl];cases (decide (so>=64))&&(decide (so<=127))<;>cases (decide (mt>=23))&&(decide (mt<=4096))<;>simp[Bool.and_assoc]
 .grind [q16,XE,q3k,qp,iV,aI,mO]
 .grind [q16,XE,q3k,iV,aI]
def qN(p:xM):Bool:=!((decide (p.n<p.br))||(decide (p.n>p.bp)))
theorem OU F l(hF:l.length<F)(hl:l.length<=1000):q49 F l=some (l.all qN):=by
 unfold q49;have:=Dc (body:=fun s=>ZJ F l s) (l:=l) (p:=fun p=>!qN p) (o:=.inr false) (e:=.inl ()) (fun i x hx=>by
  have hlt:=(gS.1 hx).1;show ZJ F l i=_;unfold ZJ;rw[i5,dN,hx];simp only[bs,qN,Bool.not_not];rw[wN i (by omega)];split<;>rfl) (by
  show ZJ F l _=_;unfold ZJ;rw[h9]) F 0 (by omega) (by omega)
 rw[show((0:Nat):Int)=0 from rfl]at this;rw[this];simp only[bs,List.drop_zero];have h2:(l.any fun p=>!qN p) = !(l.all qN):=by grind
 rw[h2];cases l.all qN<;>rfl
def og(u:jP):Int:=
 if ([(⟨u.bQ,1,8⟩:xM),⟨u.aZ,0,3200⟩,⟨u.aE,6,3200⟩,⟨u.aO,0,499⟩,⟨u.bc,10,3200⟩].all qN)=false then 5 else
 if (((decide (u.bQ>=u.aE))||(decide (u.aZ>u.aE)))||(decide (aL (u.bc*10000)<=aL (aL (aL (2*aL (u.aO+1))*u.aE)*1250))))=true then 11 else 0
theorem RG F u(hF:5<F):q2j F u=some (og u):=by grind [q2j,og,OU,bs,qN]
def yR(s:aQ):Int:=
 if (aI s.ae).Known=false then 12 else if ((decide (s.ID<1))||(decide (s.ID>255)))=true then 5 else if fH s=false then 1 else if lq s=false then 5 else
 if ((s.ae==21)&&(s.Result != 0))=true then(if ((((s.ab != 0)||(s.dh != 0))||(s.cZ != 0))||(s.aA != 0))=true then 1 else 0)else
 if ((aI s.ae).bT&&(s.bT==0))=true then 1 else if iV s=false then 5 else if (aI s.ae).ao=true then og s.ao else 0
theorem Ti k:(aI k).bT=(k==20):=by
 rcases kinds k with rfl|rfl|rfl|rfl|rfl|rfl|rfl|rfl|h
 any_goals rfl
 obtain⟨h1,h2,h3,h4,h5,h6,h7,h8⟩:=h;simp[aI,h1,h2,h3,h4,h5,h6,h7,h8]
theorem Jc k:(aI k).ao=(k==18):=by
 rcases kinds k with rfl|rfl|rfl|rfl|rfl|rfl|rfl|rfl|h
 any_goals rfl
 obtain⟨h1,h2,h3,h4,h5,h6,h7,h8⟩:=h;simp[aI,h1,h2,h3,h4,h5,h6,h7,h8]
theorem EY F s(hF:5<F):q2k F s=some (yR s):=by
 unfold q2k yR;obtain⟨x,hx,he⟩:=GA F s;rw[CZ,hx];simp only[bs,he,q6p,PE,PK,RG F _ hF,Ti,Jc];cases (aI s.ae).Known<;>simp only[Bool.not_true,Bool.not_false,if_true,if_false,Bool.false_eq_true,reduceCtorEq]
 cases (decide (s.ID<1))||(decide (s.ID>255))<;>simp only[if_true,if_false,Bool.false_eq_true]
 cases fH s<;>simp only[Bool.not_true,Bool.not_false,if_true,if_false,Bool.false_eq_true,reduceCtorEq]
 cases lq s<;>simp only[Bool.not_true,Bool.not_false,if_true,if_false,Bool.false_eq_true,reduceCtorEq]
 cases (s.ae==21)&&(s.Result != 0)<;>simp only[if_true,if_false,Bool.false_eq_true]
 .grind
 .split<;>rfl
def bf(s:aQ):List (Nat×Int):=
 if s.ae=1\/s.ae=19 then [(2,s.Result)]
 else if s.ae=6\/s.ae=7 then [(2,s.ab),(2,s.bK)]
 else if s.ae=18 then [(1,s.ao.bQ),(2,s.ao.aZ),(2,s.ao.aE),(2,s.ao.aO),(2,s.ao.bc)]
 else if s.ae=20 then [(2,s.bT),(2,s.ab),(2,s.dh),(2,s.cZ),(2,s.aA)]
 else if s.ae=21 then [(2,s.ab),(2,s.dh),(2,s.cZ),(2,s.aA),(2,s.Result)]
 else [(2,s.ab),(2,s.aA)]
def Fit(s:aQ):Prop:=∀p∈bf s,0<=p.2/\p.2<256^p.1
theorem iB{s}(h:yR s=0):(aI s.ae).Known=true/\1<=s.ID/\s.ID<=255/\fH s=true/\lq s=true/\
 ((s.ae=21/\s.ab=0/\s.dh=0/\s.cZ=0/\s.aA=0)\/(iV s=true/\(s.ae=18->og s.ao=0))):=by
 unfold yR at h;split at h
 .cases h
 rename_i h1;split at h
 .cases h
 rename_i h2;split at h
 .cases h
 rename_i h3;split at h
 .cases h
 rename_i h4;simp at h2;refine⟨by simpa using h1,by omega,by omega,by simpa using h3,by simpa using h4,?_⟩;split at h
 .grind
 .grind [Jc]
theorem mM{n}:mO n=true↔64<=n/\n<=127:=by simp[mO]
theorem vV{n}:Zl n=true↔23<=n/\n<=4096:=by simp[Zl]
theorem RF{u}(h:og u=0):(1<=u.bQ/\u.bQ<=8)/\(0<=u.aZ/\u.aZ<=3200)/\(6<=u.aE/\u.aE<=3200)/\(0<=u.aO/\u.aO<=499)/\10<=u.bc/\u.bc<=3200:=by grind [og,qN]
theorem p2:(256:Int)^2=65536:=by decide
theorem p1:(256:Int)^1=256:=by decide
theorem Uu{s}(h:yR s=0)(hp:0<=s.bT/\s.bT<=65535):Fit s:=by
 obtain⟨h1,_,_,h4,h5,h6⟩:=iB h;obtain⟨k,id,p,so,de,mt,mp,cr,re,u⟩:=s;rcases kinds k with rfl|rfl|rfl|rfl|rfl|rfl|rfl|rfl|hk
 .simp[lq,aI]at h5;intro q hq;simp[bf]at hq;subst hq;simp only[p2];omega
 .simp[iV,aI,mM]at h6;intro q hq;simp[bf]at hq;rcases hq with rfl|rfl<;>simp only[p2]<;>omega
 .simp[iV,aI,mM]at h6;intro q hq;simp[bf]at hq;rcases hq with rfl|rfl<;>simp only[p2]<;>omega
 .have h7:og u=0:=by
   simp at h6;exact h6.2
  obtain⟨g1,g2,g3,g4,g5⟩:=RF h7;intro q hq;simp[bf]at hq;rcases hq with rfl|rfl|rfl|rfl|rfl<;>simp only[p2,p1]<;>omega
 .simp[lq,aI]at h5;intro q hq;simp[bf]at hq;subst hq;simp only[p2];omega
 .simp[iV,aI,mM,vV]at h6;intro q hq;simp[bf]at hq;rcases hq with rfl|rfl|rfl|rfl|rfl<;>simp only[p2]<;>simp only at hp<;>omega
 .simp[lq,aI]at h5;simp[iV,aI,mM,vV]at h6;intro q hq;simp[bf]at hq;rcases hq with rfl|rfl|rfl|rfl|rfl<;>simp only[p2]<;>omega
 .simp[iV,aI,mM,vV]at h6;intro q hq;simp[bf]at hq;rcases hq with rfl|rfl<;>simp only[p2]<;>omega
 .grind [aI]
def fE(s:aQ):List Int:=((bf s).map fun p=>zo p.1 p.2).flatten
def iq(s:aQ):List Int:=[lg s.ae,lg s.ID,lg ((fE s).length:Int),0]++fE s
def u7(s:aQ):List uP:=(bf s).map fun p=>⟨(p.1:Int),p.2⟩
theorem Ut s:lG (u7 s)=fE s:=by
 unfold lG u7 fE;rw[List.map_map];rfl
theorem OW s:∀p∈bf s,p.1=1\/p.1=2:=by grind [bf]
theorem Yt{s}(h:Fit s):∀f∈u7 s,AR f:=by
 intro f hf;obtain⟨p,hp,rfl⟩:=List.mem_map.1 hf;obtain⟨h1,h2⟩:=h p hp;rcases OW s p hp with e|e
 .rw[e]at h2;refine⟨by simp[e],by simp[e],h1,?_,by simpa [e]using h2⟩;simp only[p1]at h2;show p.2<_;omega
 .rw[e]at h2;refine⟨by simp[e],by simp[e],h1,?_,by simpa [e]using h2⟩;simp only[p2]at h2;show p.2<_;omega
theorem RD s:(bf s).length<=5:=by
 unfold bf
 (repeat' split)<;>simp
theorem xB s:(fE s).length<=10:=by
 unfold fE bf
 (repeat' split)<;>simp[lL]
theorem UJ s(h:Fit s)(hk:(aI s.ae).Known=true):∃sz nu,qq FF s.ae=some sz/\q5b FF s=some nu/\
 iter (fun t=>Rj FF sz nu t.1 t.2.1 t.2.2) FF ([],0,0)=some (u7 s,((fE s).length:Int)):=by
 have wid:∀{x:Int} {k:Nat},0<=x/\x<256^k->k=1\/k=2->wu64 x=x/\wu64 (aL x)=x:=by
  intro x k hx hk;have:x<65536:=by rcases hk with rfl|rfl<;>simp only[p1,p2]at hx<;>omega
  rw[i7,vM (by omega) (by omega)];exact⟨rfl,rfl⟩
 obtain⟨k,id,p,so,de,mt,mp,cr,re,⟨u1,u2,u3,u4,u5⟩⟩:=s;rcases kinds k with rfl|rfl|rfl|rfl|rfl|rfl|rfl|rfl|hk'
 .refine⟨_,_,rfl,rfl,?_⟩;have e1:=(wid (h (2,re) (by simp[bf])) (.inr rfl)).1;have:iter (fun t=>Rj FF [2] [re] t.1 t.2.1 t.2.2) FF ([],0,0)=some ([⟨2,wu64 re⟩],2):=by kernel_rfl
  rw[e1]at this;exact this
 .refine⟨_,_,rfl,rfl,?_⟩;have e1:=(wid (h (2,so) (by simp[bf])) (.inr rfl)).2;have e2:=(wid (h (2,de) (by simp[bf])) (.inr rfl)).2;have:iter (fun t=>Rj FF [2,2] [aL so,aL de] t.1 t.2.1 t.2.2) FF ([],0,0)=some ([⟨2,wu64 (aL so)⟩,⟨2,wu64 (aL de)⟩],4):=by kernel_rfl
  rw[e1,e2]at this;exact this
 .refine⟨_,_,rfl,rfl,?_⟩;have e1:=(wid (h (2,so) (by simp[bf])) (.inr rfl)).2;have e2:=(wid (h (2,de) (by simp[bf])) (.inr rfl)).2;have:iter (fun t=>Rj FF [2,2] [aL so,aL de] t.1 t.2.1 t.2.2) FF ([],0,0)=some ([⟨2,wu64 (aL so)⟩,⟨2,wu64 (aL de)⟩],4):=by kernel_rfl
  rw[e1,e2]at this;exact this
 .refine⟨_,_,rfl,rfl,?_⟩;have e1:=(wid (h (1,u1) (by simp[bf])) (.inl rfl)).1;have e2:=(wid (h (2,u2) (by simp[bf])) (.inr rfl)).1;have e3:=(wid (h (2,u3) (by simp[bf])) (.inr rfl)).1;have e4:=(wid (h (2,u4) (by simp[bf])) (.inr rfl)).1;have e5:=(wid (h (2,u5) (by simp[bf])) (.inr rfl)).1;have:iter (fun t=>Rj FF [1,2,2,2,2] [u1,u2,u3,u4,u5] t.1 t.2.1 t.2.2) FF ([],0,0)=some ([⟨1,wu64 u1⟩,⟨2,wu64 u2⟩,⟨2,wu64 u3⟩,⟨2,wu64 u4⟩,⟨2,wu64 u5⟩],9):=by kernel_rfl
  rw[e1,e2,e3,e4,e5]at this;exact this
 .refine⟨_,_,rfl,rfl,?_⟩;have e1:=(wid (h (2,re) (by simp[bf])) (.inr rfl)).1;have:iter (fun t=>Rj FF [2] [re] t.1 t.2.1 t.2.2) FF ([],0,0)=some ([⟨2,wu64 re⟩],2):=by kernel_rfl
  rw[e1]at this;exact this
 .refine⟨_,_,rfl,rfl,?_⟩;have e1:=(wid (h (2,p) (by simp[bf])) (.inr rfl)).2;have e2:=(wid (h (2,so) (by simp[bf])) (.inr rfl)).2;have e3:=(wid (h (2,mt) (by simp[bf])) (.inr rfl)).1;have e4:=(wid (h (2,mp) (by simp[bf])) (.inr rfl)).1;have e5:=(wid (h (2,cr) (by simp[bf])) (.inr rfl)).1;have:iter (fun t=>Rj FF [2,2,2,2,2] [aL p,aL so,mt,mp,cr] t.1 t.2.1 t.2.2) FF ([],0,0)=some ([⟨2,wu64 (aL p)⟩,⟨2,wu64 (aL so)⟩,⟨2,wu64 mt⟩,⟨2,wu64 mp⟩,⟨2,wu64 cr⟩],10):=by kernel_rfl
  rw[e1,e2,e3,e4,e5]at this;exact this
 .refine⟨_,_,rfl,rfl,?_⟩;have e1:=(wid (h (2,so) (by simp[bf])) (.inr rfl)).2;have e2:=(wid (h (2,mt) (by simp[bf])) (.inr rfl)).1;have e3:=(wid (h (2,mp) (by simp[bf])) (.inr rfl)).1;have e4:=(wid (h (2,cr) (by simp[bf])) (.inr rfl)).1;have e5:=(wid (h (2,re) (by simp[bf])) (.inr rfl)).1;have:iter (fun t=>Rj FF [2,2,2,2,2] [aL so,mt,mp,cr,re] t.1 t.2.1 t.2.2) FF ([],0,0)=some ([⟨2,wu64 (aL so)⟩,⟨2,wu64 mt⟩,⟨2,wu64 mp⟩,⟨2,wu64 cr⟩,⟨2,wu64 re⟩],10):=by kernel_rfl
  rw[e1,e2,e3,e4,e5]at this;exact this
 .refine⟨_,_,rfl,rfl,?_⟩;have e1:=(wid (h (2,so) (by simp[bf])) (.inr rfl)).2;have e2:=(wid (h (2,cr) (by simp[bf])) (.inr rfl)).1;have:iter (fun t=>Rj FF [2,2] [aL so,cr] t.1 t.2.1 t.2.2) FF ([],0,0)=some ([⟨2,wu64 (aL so)⟩,⟨2,wu64 cr⟩],4):=by kernel_rfl
  rw[e1,e2]at this;exact this
 .grind [aI]
def Ik(s:aQ):List Int×Int:=if yR s=0 then(iq s,0)else([],yR s)
theorem WT s(hp:0<=s.bT/\s.bT<=65535):q4a FF s=some (Ik s):=by
 unfold q4a Ik;rw[EY FF s (by decide)];simp only[bs];by_cases h:yR s=0
 .have hf:=Uu h hp;obtain⟨sz,nu,h1,h2,h3⟩:=UJ s hf (iB h).1;rw[nG0 (by simp[h]),pG0 h,h1];simp only[bs];rw[h2];simp only[bs];rw[h3];simp only[bs,q6t];have hl:=RD s;rw[NC FF (u7 s) (Yt hf) (by simp[u7];omega) (by simp[u7,FF];omega)];simp only[bs];rw[f8,Ut];have hb:=xB s;rw[C8 FF _ _ (by decide) (by simp;omega)];rfl
 .grind
def iD(k:Int):List Nat:=
 if k=1\/k=19 then [2]
 else if k=6\/k=7\/k=22 then [2,2]
 else if k=18 then [1,2,2,2,2]
 else [2,2,2,2,2]
def zs:aQ:=⟨0,0,0,0,0,0,0,0,0,⟨0,0,0,0,0⟩⟩
def ks(k id:Int):aQ:=⟨k,id,0,0,0,0,0,0,0,⟨0,0,0,0,0⟩⟩
def jE(b:List Int)(at_ k:Nat):Int:=num ((b.drop at_).take k)
def fC(k id:Int)(b:List Int):aQ:=
 if k=1\/k=19 then⟨k,id,0,0,0,0,0,0,jE b 4 2,⟨0,0,0,0,0⟩⟩
 else if k=6\/k=7 then⟨k,id,0,jE b 4 2,jE b 6 2,0,0,0,0,⟨0,0,0,0,0⟩⟩
 else if k=18 then⟨k,id,0,0,0,0,0,0,0,⟨jE b 4 1,jE b 5 2,jE b 7 2,jE b 9 2,jE b 11 2⟩⟩
 else if k=20 then⟨k,id,jE b 4 2,jE b 6 2,0,jE b 8 2,jE b 10 2,jE b 12 2,0,⟨0,0,0,0,0⟩⟩
 else if k=21 then⟨k,id,0,jE b 4 2,0,jE b 6 2,jE b 8 2,jE b 10 2,jE b 12 2,⟨0,0,0,0,0⟩⟩
 else⟨k,id,0,jE b 4 2,0,0,0,jE b 6 2,0,⟨0,0,0,0,0⟩⟩
def lD(k id n:Int)(b:List Int):aQ×Int:=
 if (aI k).Known=false then(zs,12)
 else if id=0 then(zs,5)
 else if n≠(fQ (iD k):Int)then(zs,2)
 else if b.length<4+fQ (iD k)then(zs,3)
 else if 4+fQ (iD k)<b.length then(zs,2)
 else if yR (fC k id b)≠0 then(zs,yR (fC k id b))
 else(fC k id b,0)
def rT:List Int->aQ×Int
 | k::id::c::d::r=>lD k id (c+256*d) (k::id::c::d::r)
 | _=>(zs,3)
theorem yG{b}(hb:∀x∈b,Byte x)at_ k(hk:k=1\/k=2):0<=jE b at_ k/\jE b at_ k<65536:=by
 have hm:∀x∈(b.drop at_).take k,Byte x:=fun x hx=>hb x (List.mem_of_mem_drop (List.mem_of_mem_take hx));refine⟨num_nonneg hm,?_⟩;have h1:=Mg hm;have h2:((b.drop at_).take k).length<=2:=by simp;omega
 unfold jE;generalize num ((b.drop at_).take k)=q at *;generalize ((b.drop at_).take k).length=n at *;rcases n with _|_|_|n
 .grind
 .grind
 .grind
 .omega
theorem Jq{k}(hk:(aI k).Known=true):qq FF k=some (jB (iD k)):=by
 rcases kinds k with rfl|rfl|rfl|rfl|rfl|rfl|rfl|rfl|h
 any_goals rfl
 obtain⟨h1,h2,h3,h4,h5,h6,h7,h8⟩:=h;simp[aI,h1,h2,h3,h4,h5,h6,h7,h8]at hk
theorem Ng k:∀n∈iD k,1<=n/\n<=8:=by grind [iD]
theorem RO k:(iD k).length<=5:=by
 unfold iD
 (repeat' split)<;>decide
theorem Jj k:fQ (iD k)<=10:=by
 unfold iD
 (repeat' split)<;>decide
theorem UZ k(hk:(aI k).Known=true):iter (fun s=>q5k FF (jB (iD k)) s.1 s.2) FF (0,0)=some (fQ (iD k):Int):=by
 rcases kinds k with rfl|rfl|rfl|rfl|rfl|rfl|rfl|rfl|h
 .kernel_rfl
 .kernel_rfl
 .kernel_rfl
 .kernel_rfl
 .kernel_rfl
 .kernel_rfl
 .kernel_rfl
 .kernel_rfl
 obtain⟨h1,h2,h3,h4,h5,h6,h7,h8⟩:=h;simp[aI,h1,h2,h3,h4,h5,h6,h7,h8]at hk
theorem fl1 id x0(h0:0<=x0/\x0<65536):qh FF (ks 1 id) [x0]=some ⟨1,id,0,0,0,0,0,0,x0,⟨0,0,0,0,0⟩⟩:=by
 have h:qh FF (ks 1 id) [x0]=some ⟨1,id,0,0,0,0,0,0,aL x0,⟨0,0,0,0,0⟩⟩:=by kernel_rfl
 rw[i7]at h;exact h
theorem fl6 id x0 x1(h0:0<=x0/\x0<65536)(h1:0<=x1/\x1<65536):qh FF (ks 6 id) [x0,x1]=some ⟨6,id,0,x0,x1,0,0,0,0,⟨0,0,0,0,0⟩⟩:=by
 have h:qh FF (ks 6 id) [x0,x1]=some ⟨6,id,0,kW x0,kW x1,0,0,0,0,⟨0,0,0,0,0⟩⟩:=by kernel_rfl
 rw[jJ h0.1 (by omega),jJ h1.1 (by omega)]at h;exact h
theorem fl7 id x0 x1(h0:0<=x0/\x0<65536)(h1:0<=x1/\x1<65536):qh FF (ks 7 id) [x0,x1]=some ⟨7,id,0,x0,x1,0,0,0,0,⟨0,0,0,0,0⟩⟩:=by
 have h:qh FF (ks 7 id) [x0,x1]=some ⟨7,id,0,kW x0,kW x1,0,0,0,0,⟨0,0,0,0,0⟩⟩:=by kernel_rfl
 rw[jJ h0.1 (by omega),jJ h1.1 (by omega)]at h;exact h
theorem fl18 id x0 x1 x2 x3 x4(h0:0<=x0/\x0<65536)(h1:0<=x1/\x1<65536)(h2:0<=x2/\x2<65536)(h3:0<=x3/\x3<65536)(h4:0<=x4/\x4<65536):qh FF (ks 18 id) [x0,x1,x2,x3,x4]=some ⟨18,id,0,0,0,0,0,0,0,⟨x0,x1,x2,x3,x4⟩⟩:=by
 have h:qh FF (ks 18 id) [x0,x1,x2,x3,x4]=some ⟨18,id,0,0,0,0,0,0,0,⟨aL x0,aL x1,aL x2,aL x3,aL x4⟩⟩:=by kernel_rfl
 rw[i7,i7,i7,i7,i7]at h;exact h
theorem fl19 id x0(h0:0<=x0/\x0<65536):qh FF (ks 19 id) [x0]=some ⟨19,id,0,0,0,0,0,0,x0,⟨0,0,0,0,0⟩⟩:=by
 have h:qh FF (ks 19 id) [x0]=some ⟨19,id,0,0,0,0,0,0,aL x0,⟨0,0,0,0,0⟩⟩:=by kernel_rfl
 rw[i7]at h;exact h
theorem fl20 id x0 x1 x2 x3 x4(h0:0<=x0/\x0<65536)(h1:0<=x1/\x1<65536)(h2:0<=x2/\x2<65536)(h3:0<=x3/\x3<65536)(h4:0<=x4/\x4<65536):qh FF (ks 20 id) [x0,x1,x2,x3,x4]=some ⟨20,id,x0,x1,0,x2,x3,x4,0,⟨0,0,0,0,0⟩⟩:=by
 have h:qh FF (ks 20 id) [x0,x1,x2,x3,x4]=some ⟨20,id,kW x0,kW x1,0,aL x2,aL x3,aL x4,0,⟨0,0,0,0,0⟩⟩:=by kernel_rfl
 rw[jJ h0.1 (by omega),jJ h1.1 (by omega),i7,i7,i7]at h;exact h
theorem fl21 id x0 x1 x2 x3 x4(h0:0<=x0/\x0<65536)(h1:0<=x1/\x1<65536)(h2:0<=x2/\x2<65536)(h3:0<=x3/\x3<65536)(h4:0<=x4/\x4<65536):qh FF (ks 21 id) [x0,x1,x2,x3,x4]=some ⟨21,id,0,x0,0,x1,x2,x3,x4,⟨0,0,0,0,0⟩⟩:=by
 have h:qh FF (ks 21 id) [x0,x1,x2,x3,x4]=some ⟨21,id,0,kW x0,0,aL x1,aL x2,aL x3,aL x4,⟨0,0,0,0,0⟩⟩:=by kernel_rfl
 rw[jJ h0.1 (by omega),i7,i7,i7,i7]at h;exact h
theorem fl22 id x0 x1(h0:0<=x0/\x0<65536)(h1:0<=x1/\x1<65536):qh FF (ks 22 id) [x0,x1]=some ⟨22,id,0,x0,0,0,0,x1,0,⟨0,0,0,0,0⟩⟩:=by
 have h:qh FF (ks 22 id) [x0,x1]=some ⟨22,id,0,kW x0,0,0,0,aL x1,0,⟨0,0,0,0,0⟩⟩:=by kernel_rfl
 rw[jJ h0.1 (by omega),i7]at h;exact h
theorem Qy{b}(hb:∀x∈b,Byte x)k id(hk:(aI k).Known=true):qh FF (ks k id) (gJ (b.drop 4) (iD k))=some (fC k id b):=by
 have r2:=fun a=>yG hb a 2 (.inr rfl);have r1:=yG hb 4 1 (.inl rfl);rcases kinds k with rfl|rfl|rfl|rfl|rfl|rfl|rfl|rfl|h
 .rw[show gJ (b.drop 4) (iD 1)=[jE b 4 2]from by simp[gJ,iD,jE]];exact fl1 id _ (r2 4)
 .rw[show gJ (b.drop 4) (iD 6)=[jE b 4 2,jE b 6 2]from by simp[gJ,iD,jE]];exact fl6 id _ _ (r2 4) (r2 6)
 .rw[show gJ (b.drop 4) (iD 7)=[jE b 4 2,jE b 6 2]from by simp[gJ,iD,jE]];exact fl7 id _ _ (r2 4) (r2 6)
 .rw[show gJ (b.drop 4) (iD 18)=[jE b 4 1,jE b 5 2,jE b 7 2,jE b 9 2,jE b 11 2]from by simp[gJ,iD,jE]];exact fl18 id _ _ _ _ _ r1 (r2 5) (r2 7) (r2 9) (r2 11)
 .rw[show gJ (b.drop 4) (iD 19)=[jE b 4 2]from by simp[gJ,iD,jE]];exact fl19 id _ (r2 4)
 .rw[show gJ (b.drop 4) (iD 20)=[jE b 4 2,jE b 6 2,jE b 8 2,jE b 10 2,jE b 12 2]from by simp[gJ,iD,jE]];exact fl20 id _ _ _ _ _ (r2 4) (r2 6) (r2 8) (r2 10) (r2 12)
 .rw[show gJ (b.drop 4) (iD 21)=[jE b 4 2,jE b 6 2,jE b 8 2,jE b 10 2,jE b 12 2]from by simp[gJ,iD,jE]];exact fl21 id _ _ _ _ _ (r2 4) (r2 6) (r2 8) (r2 10) (r2 12)
 .rw[show gJ (b.drop 4) (iD 22)=[jE b 4 2,jE b 6 2]from by simp[gJ,iD,jE]];exact fl22 id _ _ (r2 4) (r2 6)
 .grind [aI]
theorem Ie{x}(hx:Byte x):mJ .i64 (aL x) 8=x*256:=by
 obtain⟨h0,h1⟩:=hx;unfold mJ;rw[wrap_i64,bW (x:=x) (by omega) (by omega),show(2:Int)^8=256 by decide,i7]
theorem Hu{x y}(hx:Byte x)(hy:Byte y):vK .i64 (aL x) (y*256)=x+256*y:=by
 obtain⟨h0,h1⟩:=hx;obtain⟨g0,g1⟩:=hy;rw[i7];obtain⟨x,rfl⟩:=Int.eq_ofNat_of_zero_le h0;obtain⟨y,rfl⟩:=Int.eq_ofNat_of_zero_le g0;unfold vK;have e:(BitVec.ofInt IntKind.i64.bits (x:Int) ||| BitVec.ofInt IntKind.i64.bits ((y:Int)*256)).toNat=x+y*256:=by
  rw[show((y:Int)*256)=((y*256:Nat):Int)from by rw[Int.natCast_mul];rfl,BitVec.toNat_or];show(BitVec.ofInt 64 (x:Int)).toNat ||| (BitVec.ofInt 64 ((y*256:Nat):Int)).toNat=_
  rw[BitVec.toNat_ofInt,BitVec.toNat_ofInt];rw[show(((x:Nat):Int)%((2^64:Nat):Int)).toNat=x from by rw[<-Int.natCast_emod,Int.toNat_natCast,Nat.mod_eq_of_lt (by omega)]];rw[show(((y*256:Nat):Int)%((2^64:Nat):Int)).toNat=y*256 from by rw[<-Int.natCast_emod,Int.toNat_natCast,Nat.mod_eq_of_lt (by omega)]];exact CJ x y 8 (by omega)
 rw[e,wrap_i64,i7];omega
theorem WU b(hb:∀x∈b,Byte x)(hl:b.length<=1000000):q3m FF b=some (rT b):=by
 match b,hb,hl with
 | [],_,_=>rfl
 | [_],_,_=>rfl
 | [_,_],_,_=>rfl
 | [_,_,_],_,_=>rfl
 | k::id::c::d::r,hb,hl=>
   have hk:=hb k (by simp);have hid:=hb id (by simp);have hc:=hb c (by simp);have hd:=hb d (by simp);have h5:¬ (len (k::id::c::d::r)<4):=by simp only[len,lC0];omega
   have i0:idx (k::id::c::d::r) 0=some k:=(dN _ 0).trans rfl;have i1:idx (k::id::c::d::r) 1=some id:=(dN _ 1).trans rfl;have i2:idx (k::id::c::d::r) 2=some c:=(dN _ 2).trans rfl;have i3:idx (k::id::c::d::r) 3=some d:=(dN _ 3).trans rfl;unfold q3m;rw[nG0 (fun h=>h5 (of_decide_eq_true h)),i0,bs,i1,bs];show q64 FF (k::id::c::d::r) ⟨aL k,aL id,0,0,0,0,0,0,0,⟨0,0,0,0,0⟩⟩=_;rw[bW (by have:=hk.1;omega) (by have:=hk.2;omega),bW (by have:=hid.1;omega) (by have:=hid.2;omega)];unfold q64;rw[i2,bs,i3,bs,Ie hd];show q63 FF (k::id::c::d::r) (ks k id) (vK .i64 (aL c) (d*256))=_;rw[Hu hc hd];show _=some (lD k id (c+256*d) (k::id::c::d::r));generalize hB:k::id::c::d::r=B at *;generalize c+256*d=n;have hBl:4<=B.length:=by rw[<-hB];simp
   clear hB i0 i1 i2 i3 h5;unfold q63 lD;show(qq FF k).bind _=_;by_cases hkn:(aI k).Known=true
   .rw[Jq hkn,bs,UZ k hkn,bs];unfold q62;rw[CZ];show(some (aI k).Known).bind _=_;rw[hkn,bs,nG0 (show ¬ ((!true)=true) by decide),nG0 (show ¬ (true=false) by decide)];show(if (id==0)=true then _ else _)=_;by_cases h0:id=0
    .rw[pG0 (by simp[h0]),pG0 h0];rfl
    rw[nG0 (by simp[h0]),nG0 h0];by_cases hn:n=(fQ (iD k):Int)
    .rw[nG0 (by simp[hn]),nG0 (show ¬ (n≠(fQ (iD k):Int))from not_not_intro hn)];have hs:=lQ B 4 B.length hBl (lR _);rw[List.take_length]at hs;rw[show sub B 4 (len B)=some (B.drop 4)from hs,bs];show(qq FF k).bind _=_;rw[Jq hkn,bs];have hlen:=RO k;have hsum:=Jj k;have hbd:∀x∈B.drop 4,Byte x:=fun x hx=>hb x (List.mem_of_mem_drop hx);by_cases hsh:B.length<4+fQ (iD k)
     .rw[LB FF (B.drop 4) (iD k) (Ng k) (by omega) (by unfold FF;omega) (by simp;omega),pG0 hsh];rfl
     .rw[WH FF (B.drop 4) (iD k) (Ng k) (by omega) (by unfold FF;omega) hbd (by simp;omega) (by simp;omega),nG0 hsh,bs];unfold q79;rw[f8];by_cases hlo:4+fQ (iD k)<B.length
      .rw[i5,pG0 hlo];rfl
      .rw[f9,nG0 hlo];show(qh FF (ks k id) (gJ (B.drop 4) (iD k))).bind _=_;rw[Qy hb k id hkn,bs,EY FF _ (by decide),bs];by_cases hch:yR (fC k id B)=0
       .grind
       .rw[pG0 (by simp[hch]),pG0 hch];rfl
    .rw[pG0 (by simpa using hn),pG0 hn];rfl
   .have hk0:(aI k).Known=false:=by simpa using hkn
    have:∃sz n',qq FF k=some sz/\iter (fun s=>q5k FF sz s.1 s.2) FF (0,0)=some n':=by
     rcases kinds k with rfl|rfl|rfl|rfl|rfl|rfl|rfl|rfl|h
     any_goals cases hk0
     obtain⟨h1,h2,h3,h4,h5,h6,h7,h8⟩:=h;refine⟨[2,2,2,2,2],10,?_,by kernel_rfl⟩;simp[qq,q5x,q5a,h1,h2,h3,h4,h5,h6,h7,h8]
    obtain⟨sz,n',e1,e2⟩:=this;rw[e1,bs,e2,bs];unfold q62;rw[CZ];show(some (aI k).Known).bind _=_;rw[hk0,bs,pG0 (show(!false)=true from rfl),pG0 (show false=false from rfl)];rfl
theorem J9 x:zo 2 x=[x%256,x/256%256]:=rfl
theorem leb1 x:zo 1 x=[x%256]:=rfl
theorem nU{x}(h:0<=x/\x<256^2):num [x%256,x/256%256]=x:=by grind [p2,num]
theorem num1{x}(h:0<=x/\x<256^1):num [x%256]=x:=by grind [p1,num]
theorem lW u:xU u=true↔u=⟨0,0,0,0,0⟩:=by
 obtain⟨a,b,c,d,e⟩:=u;simp[xU]
theorem wid8{x}(h:0<=x/\x<256):lg x=x:=Gx h.1 h.2
theorem Ux{s}(h:yR s=0)(hf:Fit s):fC s.ae s.ID (iq s)=s/\(fE s).length=fQ (iD s.ae):=by
 obtain⟨h1,_,_,h4,_,_⟩:=iB h;clear h;obtain⟨k,id,p,so,de,mt,mp,cr,re,u⟩:=s;rcases kinds k with rfl|rfl|rfl|rfl|rfl|rfl|rfl|rfl|hk
 .have e0:=nU (hf (2,re) (by simp[bf]));simp[fH,aI,lW]at h4;refine⟨?_,rfl⟩;simp[fC,iq,fE,bf,jE,J9,e0,h4]
 .have e0:=nU (hf (2,so) (by simp[bf]));have e1:=nU (hf (2,de) (by simp[bf]));simp[fH,aI,lW]at h4;refine⟨?_,rfl⟩;simp[fC,iq,fE,bf,jE,J9,e0,e1,h4]
 .have e0:=nU (hf (2,so) (by simp[bf]));have e1:=nU (hf (2,de) (by simp[bf]));simp[fH,aI,lW]at h4;refine⟨?_,rfl⟩;simp[fC,iq,fE,bf,jE,J9,e0,e1,h4]
 .obtain⟨u1,u2,u3,u4,u5⟩:=u;have e0:=num1 (hf (1,u1) (by simp[bf]));have e1:=nU (hf (2,u2) (by simp[bf]));have e2:=nU (hf (2,u3) (by simp[bf]));have e3:=nU (hf (2,u4) (by simp[bf]));have e4:=nU (hf (2,u5) (by simp[bf]));simp[fH,aI,lW]at h4;refine⟨?_,rfl⟩;simp[fC,iq,fE,bf,jE,J9,leb1,e0,e1,e2,e3,e4,h4]
 .have e0:=nU (hf (2,re) (by simp[bf]));simp[fH,aI,lW]at h4;refine⟨?_,rfl⟩;simp[fC,iq,fE,bf,jE,J9,e0,h4]
 .have e0:=nU (hf (2,p) (by simp[bf]));have e1:=nU (hf (2,so) (by simp[bf]));have e2:=nU (hf (2,mt) (by simp[bf]));have e3:=nU (hf (2,mp) (by simp[bf]));have e4:=nU (hf (2,cr) (by simp[bf]));simp[fH,aI,lW]at h4;refine⟨?_,rfl⟩;simp[fC,iq,fE,bf,jE,J9,e0,e1,e2,e3,e4,h4]
 .have e0:=nU (hf (2,so) (by simp[bf]));have e1:=nU (hf (2,mt) (by simp[bf]));have e2:=nU (hf (2,mp) (by simp[bf]));have e3:=nU (hf (2,cr) (by simp[bf]));have e4:=nU (hf (2,re) (by simp[bf]));simp[fH,aI,lW]at h4;refine⟨?_,rfl⟩;simp[fC,iq,fE,bf,jE,J9,e0,e1,e2,e3,e4,h4]
 .have e0:=nU (hf (2,so) (by simp[bf]));have e1:=nU (hf (2,cr) (by simp[bf]));simp[fH,aI,lW]at h4;refine⟨?_,rfl⟩;simp[fC,iq,fE,bf,jE,J9,e0,e1,h4]
 .grind [aI]
theorem yI{k}(hk:(aI k).Known=true):0<=k/\k<256:=by
 rcases kinds k with rfl|rfl|rfl|rfl|rfl|rfl|rfl|rfl|h
 any_goals decide
 obtain⟨g1,g2,g3,g4,g5,g6,g7,g8⟩:=h;simp[aI,g1,g2,g3,g4,g5,g6,g7,g8]at hk
theorem ML{s}(h:yR s=0):iq s=s.ae::s.ID::((fE s).length:Int)::0::fE s:=by grind [iB,xB,iq,wid8,yI]
theorem oJ{s}(h:yR s=0)(hp:0<=s.bT/\s.bT<=65535):rT (iq s)=(s,0):=by
 obtain⟨e1,e2⟩:=Ux h (Uu h hp);obtain⟨h1,h2,h3,_⟩:=iB h;rw[ML h]at e1 |-;show lD s.ae s.ID (((fE s).length:Int)+256*0) _=_;unfold lD;rw[e1,nG0 (by simp[h1]),nG0 (show ¬ (s.ID=0) by omega),nG0 (show ¬ (((fE s).length:Int)+256*0≠(fQ (iD s.ae):Int))from not_not_intro (by rw[e2];omega)),
  nG0 (by simp only[lC0];omega),nG0 (by simp only[lC0];omega),nG0 (not_not_intro h)]
theorem QC{s}(h:yR s=0):∀x∈iq s,Byte x:=by
 obtain⟨h1,h2,h3,_⟩:=iB h;have hb:=xB s;rw[ML h];intro x hx;have hk:=yI h1;simp only[List.mem_cons]at hx;rcases hx with rfl|rfl|rfl|rfl|hx
 .exact hk
 .exact⟨by omega,by omega⟩
 .exact⟨by omega,by omega⟩
 .exact⟨by decide,by decide⟩
 .grind [fE,CV]
theorem dZ{x y}(hx:Byte x)(hy:Byte y):zo 2 (num [x,y])=[x,y]:=by
 have:=H7 (l:=[x,y]) (by simp[hx,hy]);exact this
theorem Vn{x}(hx:Byte x):zo 1 (num [x])=[x]:=by
 have:=H7 (l:=[x]) (by simp[hx]);exact this
theorem QL k id c d r(hb:∀x∈r,Byte x)(hk:(aI k).Known=true)(hr:r.length=fQ (iD k)):fE (fC k id (k::id::c::d::r))=r:=by
 rcases kinds k with rfl|rfl|rfl|rfl|rfl|rfl|rfl|rfl|h
 .match r,hr,hb with
  | [x0,x1],_,hb=>
    have e0:=dZ (hb x0 (by simp)) (hb x1 (by simp));simp[fC,fE,bf,jE,e0]
 .match r,hr,hb with
  | [x0,x1,x2,x3],_,hb=>
    have e0:=dZ (hb x0 (by simp)) (hb x1 (by simp));have e1:=dZ (hb x2 (by simp)) (hb x3 (by simp));simp[fC,fE,bf,jE,e0,e1]
 .match r,hr,hb with
  | [x0,x1,x2,x3],_,hb=>
    have e0:=dZ (hb x0 (by simp)) (hb x1 (by simp));have e1:=dZ (hb x2 (by simp)) (hb x3 (by simp));simp[fC,fE,bf,jE,e0,e1]
 .match r,hr,hb with
  | [x0,x1,x2,x3,x4,x5,x6,x7,x8],_,hb=>
    have e0:=Vn (hb x0 (by simp));have e1:=dZ (hb x1 (by simp)) (hb x2 (by simp));have e2:=dZ (hb x3 (by simp)) (hb x4 (by simp));have e3:=dZ (hb x5 (by simp)) (hb x6 (by simp));have e4:=dZ (hb x7 (by simp)) (hb x8 (by simp));simp[fC,fE,bf,jE,e0,e1,e2,e3,e4]
 .match r,hr,hb with
  | [x0,x1],_,hb=>
    have e0:=dZ (hb x0 (by simp)) (hb x1 (by simp));simp[fC,fE,bf,jE,e0]
 .match r,hr,hb with
  | [x0,x1,x2,x3,x4,x5,x6,x7,x8,x9],_,hb=>
    have e0:=dZ (hb x0 (by simp)) (hb x1 (by simp));have e1:=dZ (hb x2 (by simp)) (hb x3 (by simp));have e2:=dZ (hb x4 (by simp)) (hb x5 (by simp));have e3:=dZ (hb x6 (by simp)) (hb x7 (by simp));have e4:=dZ (hb x8 (by simp)) (hb x9 (by simp));simp[fC,fE,bf,jE,e0,e1,e2,e3,e4]
 .match r,hr,hb with
  | [x0,x1,x2,x3,x4,x5,x6,x7,x8,x9],_,hb=>
    have e0:=dZ (hb x0 (by simp)) (hb x1 (by simp));have e1:=dZ (hb x2 (by simp)) (hb x3 (by simp));have e2:=dZ (hb x4 (by simp)) (hb x5 (by simp));have e3:=dZ (hb x6 (by simp)) (hb x7 (by simp));have e4:=dZ (hb x8 (by simp)) (hb x9 (by simp));simp[fC,fE,bf,jE,e0,e1,e2,e3,e4]
 .match r,hr,hb with
  | [x0,x1,x2,x3],_,hb=>
    have e0:=dZ (hb x0 (by simp)) (hb x1 (by simp));have e1:=dZ (hb x2 (by simp)) (hb x3 (by simp));simp[fC,fE,bf,jE,e0,e1]
 .grind [aI]
theorem Qz k id b:(fC k id b).ae=k/\(fC k id b).ID=id:=by grind [fC]
theorem Uw{b}(hb:∀x∈b,Byte x)k id:0<=(fC k id b).bT/\(fC k id b).bT<=65535:=by
 have r2:=yG hb 4 2 (.inr rfl);unfold fC
 (repeat' split)<;>first|exact⟨Int.le_refl 0,(by decide:(0:Int)<=65535)⟩|exact⟨r2.1,by show jE b 4 2<=_;omega⟩
theorem QE b(hb:∀x∈b,Byte x):((rT b).1=zs/\(rT b).2≠0)\/((rT b).2=0/\yR (rT b).1=0/\(0<=(rT b).1.bT/\(rT b).1.bT<=65535)/\iq (rT b).1=b):=by
 match b,hb with
 | [],_=>exact .inl ⟨rfl,show(3:Int)≠0 by decide⟩
 | [_],_=>exact .inl ⟨rfl,show(3:Int)≠0 by decide⟩
 | [_,_],_=>exact .inl ⟨rfl,show(3:Int)≠0 by decide⟩
 | [_,_,_],_=>exact .inl ⟨rfl,show(3:Int)≠0 by decide⟩
 | k::id::c::d::r,hb=>
   show((lD k id (c+256*d) (k::id::c::d::r)).1=zs/\(lD k id (c+256*d) (k::id::c::d::r)).2≠0)\/((lD k id (c+256*d) (k::id::c::d::r)).2=0/\yR (lD k id (c+256*d) (k::id::c::d::r)).1=0/\(0<=(lD k id (c+256*d) (k::id::c::d::r)).1.bT/\(lD k id (c+256*d) (k::id::c::d::r)).1.bT<=65535)/\iq (lD k id (c+256*d) (k::id::c::d::r)).1=k::id::c::d::r);have hc:=hb c (by simp);have hd:=hb d (by simp);have hbr:∀x∈r,Byte x:=fun x hx=>hb x (by simp[hx]);have hps:=Uw hb k id;have hfh:=Qz k id (k::id::c::d::r);have hbf:=fun hk hr=>QL k id c d r hbr hk hr;have hlen:(k::id::c::d::r).length=4+r.length:=by simp only[lC0];omega
   have hsum:=Jj k;unfold lD;generalize hS:fC k id (k::id::c::d::r)=S at *;rw[hlen];by_cases h1:(aI k).Known=false
   .grind
   rw[nG0 h1];by_cases h2:id=0
   .grind
   rw[nG0 h2];by_cases h3:c+256*d=(fQ (iD k):Int)
   .rw[nG0 (not_not_intro h3)];by_cases h4:4+r.length<4+fQ (iD k)
    .grind
    rw[nG0 h4];by_cases h5:4+fQ (iD k)<4+r.length
    .grind
    rw[nG0 h5];by_cases h6:yR S=0
    .rw[nG0 (not_not_intro h6)];refine .inr ⟨rfl,h6,hps,?_⟩;show iq S=_;have hr:r.length=fQ (iD k):=by omega
     have hd0:d=0:=by have:=hc.1;have:=hc.2;have:=hd.1;omega
     rw[ML h6,hfh.1,hfh.2,hbf (by simpa using h1) hr,hd0,show((r.length:Nat):Int)=c from by omega]
    .grind
   .grind
end Sg
theorem ff:10000000000<FF:=by decide
theorem jK:∀(l m:List Int),l.Nodup->(∀x∈l,x∈m)->l.length<=m.length
 | [],_,_,_=>by simp
 | x::l,m,hn,hs=>by
   rw[List.nodup_cons]at hn;have hx:=hs x (by simp);have h1:=jK l (m.erase x) hn.2 fun y hy=>by grind
   rw[List.length_erase_of_mem hx]at h1;have h2:0<m.length:=List.length_pos_of_mem hx;rw[lC0];omega
def uI(l:List Int)(v:Int):List Int:=if l.any (fun x=>v==x)=true then l else l++[v]
theorem KY l v w:w∈uI l v↔w∈l\/w=v:=by grind [uI]
theorem Dz{l}(h:l.Nodup)v:(uI l v).Nodup:=by grind [uI]
theorem KZ l v:(uI l v).length<=l.length+1:=by grind [uI]
def qJ(l:List Int)(cs:List aM):List Int:=cs.foldl (fun l c=>uI l c.ap) l
def qM(l:List Int)(as:List aQ):List Int:=as.foldl (fun l s=>if (s.ae==20||s.ae==6)=true then uI l s.ab else l) l
theorem qI:∀cs l,l.Nodup->(qJ l cs).Nodup/\(qJ l cs).length<=l.length+cs.length/\∀w,w∈qJ l cs↔w∈l\/∃c∈cs,c.ap=w
 | [],l,h=>⟨h,by simp[qJ],fun w=>by simp[qJ]⟩
 | c::cs,l,h=>by
   obtain⟨h1,h2,h3⟩:=qI cs (uI l c.ap) (Dz h _);have e:qJ l (c::cs)=qJ (uI l c.ap) cs:=rfl;rw[e];refine⟨h1,by have:=KZ l c.ap;rw[lC0];omega,fun w=>?_⟩;rw[h3,KY];constructor
   .grind
   .grind
theorem qK:∀as l,l.Nodup->(qM l as).Nodup/\(qM l as).length<=l.length+as.length/\∀w,w∈qM l as↔w∈l\/∃s∈as,(s.ae=20\/s.ae=6)/\s.ab=w
 | [],l,h=>⟨h,by simp[qM],fun w=>by simp[qM]⟩
 | s::as,l,h=>by
   by_cases hk:(s.ae==20||s.ae==6)=true
   .obtain⟨h1,h2,h3⟩:=qK as (uI l s.ab) (Dz h _);have e:qM l (s::as)=qM (uI l s.ab) as:=by unfold qM;rw[List.foldl_cons,pG0 hk]
    rw[e];have hk2:s.ae=20\/s.ae=6:=by simpa using hk
    refine⟨h1,by have:=KZ l s.ab;rw[lC0];omega,fun w=>?_⟩;rw[h3,KY];constructor
    .grind
    .grind
   .obtain⟨h1,h2,h3⟩:=qK as l h;have e:qM l (s::as)=qM l as:=by unfold qM;rw[List.foldl_cons,nG0 hk]
    rw[e];have hk2:¬ (s.ae=20\/s.ae=6):=by simpa using hk
    refine⟨h1,by rw[lC0];omega,fun w=>?_⟩;rw[h3];constructor
    .grind
    .grind
def bE(m:aJ)(l:Int):Bool:=m.aB.any fun s=>(s.ae==6)&&(s.ab==l)
def YR(m:aJ)(k l:Int):Bool:=m.aB.any fun s=>(s.ae==k)&&(s.ab==l)
def D9(m:aJ)(mO:Int):Int:=fidx (fun c:aM=>c.ap==mO) m.aj
def JI(m:aJ)(mO:Int):Int:=fidx (fun c:aM=>c.al==mO) m.aj
def gB(m:aJ)(mO:Int):Bool:=(m.aj.any (fun c=>c.ap==mO)||YR m 20 mO)||YR m 6 mO
def nZ:List Int:=(List.range 64).map fun(i:Nat)=>64+(i:Int)
def gK(m:aJ):Nat:=(nZ.filter (gB m)).length
def ji(m:aJ):Int:=(nZ.find? fun v=>!gB m v).getD 0
theorem vC:nZ.Nodup:=by
 unfold nZ List.Nodup;rw[List.pairwise_map];exact List.pairwise_lt_range.imp fun h=>by omega
theorem xu v:v∈nZ↔64<=v/\v<=127:=by
 unfold nZ;rw[List.mem_map];constructor
 .grind
 .intro h;exact⟨(v-64).toNat,by rw[List.mem_range];omega,by omega⟩
theorem eH m v:gB m v=true↔(∃c∈m.aj,c.ap=v)\/∃s∈m.aB,(s.ae=20\/s.ae=6)/\s.ab=v:=by grind [gB,YR]
def sD(m:aJ):List Int:=qM (qJ [] m.aj) m.aB
theorem y9 m:(sD m).Nodup/\(sD m).length<=m.aj.length+m.aB.length/\∀w,w∈sD m↔gB m w=true:=by grind [qI,qK,sD,qM,qJ,eH]
def DR(m:aJ):Prop:=(∀c∈m.aj,64<=c.ap/\c.ap<=127)/\∀s∈m.aB,(s.ae=20\/s.ae=6)->64<=s.ab/\s.ab<=127
theorem FQ{m}(h:DR m){v}(hv:gB m v=true):64<=v/\v<=127:=by
 rcases(eH m v).1 hv with⟨c,hc,rfl⟩|⟨s,hs,hk,rfl⟩
 .exact h.1 c hc
 .exact h.2 s hs hk
theorem OX{m}(h:DR m):(sD m).length=gK m:=by
 obtain⟨b1,_,b3⟩:=y9 m;unfold gK;apply Nat.le_antisymm
 .refine jK _ _ b1 fun x hx=>?_;have hx2:=(b3 x).1 hx;rw[List.mem_filter];exact⟨(xu x).2 (FQ h hx2),hx2⟩
 .refine jK _ _ (vC.filter _) fun x hx=>?_;rw[List.mem_filter]at hx;exact(b3 x).2 hx.2
theorem j6{m}(h:gK m<64):∃v,nZ.find? (fun v=>!gB m v)=some v/\ji m=v/\gB m v=false/\64<=v/\v<=127:=by
 cases hf:nZ.find? (fun v=>!gB m v)with
 | none=>
   exfalso;rw[List.find?_eq_none]at hf;have:nZ.filter (gB m)=nZ:=by
    rw[List.filter_eq_self];intro a ha;simpa using hf a ha
   unfold gK at h;rw[this]at h;simp[nZ]at h
 | some v=>
   have h1:=List.find?_some hf;have h2:=List.mem_of_find?_eq_some hf;refine⟨v,rfl,?_,by simpa using h1,(xu v).1 h2⟩;unfold ji;rw[hf];rfl
def after(n:Int):Int:=if n>=255 then 1 else n+1
def Rn:Nat->Int->Int
 | 0,n=>n
 | k+1,n=>Rn k (after n)
def D8(A:List aQ):Nat->Int->Int
 | 0,n=>n
 | k+1,n=>if A.any (fun s=>s.ID==n)=true then D8 A k (after n)else n
def oU(m:aJ):Int:=D8 m.aB 255 m.bV
theorem yX{n}(h:1<=n/\n<=255):1<=after n/\after n<=255:=by unfold after;split<;>omega
theorem VJ:∀k n,1<=n/\n<=255->Rn k n=(n-1+k)%255+1
 | 0,n,h=>by unfold Rn;omega
 | k+1,n,h=>by
   unfold Rn;rw[VJ k (after n) (yX h)];unfold after;split<;>omega
theorem uW(A:List aQ)n(hn:1<=n/\n<=255)(hA:A.length<255):∃j,j<255/\A.any (fun s=>s.ID==Rn j n)=false:=by
 apply Classical.byContradiction;intro hno;have hall:∀j,j<255->∃s∈A,s.ID=Rn j n:=fun j hj=>by
  have h1:A.any (fun s=>s.ID==Rn j n)=true:=by
   cases hb:A.any (fun s=>s.ID==Rn j n)with
   | true=>rfl
   | false=>exact absurd ⟨j,hj,hb⟩ hno
  rw[List.any_eq_true]at h1;obtain⟨s,hs,he⟩:=h1;exact⟨s,hs,by simpa using he⟩
 have hnd:((List.range 255).map fun(i:Nat)=>(i:Int)+1).Nodup:=by
  unfold List.Nodup;rw[List.pairwise_map];exact List.pairwise_lt_range.imp fun h=>by omega
 have hlen:=jK _ (A.map (·.ID)) hnd fun v hv=>by
  rw[List.mem_map]at hv;obtain⟨i,hi,rfl⟩:=hv;rw[List.mem_range]at hi;obtain⟨s,hs,he⟩:=hall (((i:Int)+255-(n-1))%255).toNat (by omega);rw[List.mem_map];refine⟨s,hs,?_⟩;rw[he,VJ _ _ hn];omega
 simp at hlen;omega
theorem sW A:∀k n,1<=n/\n<=255->1<=D8 A k n/\D8 A k n<=255
 | 0,n,h=>h
 | k+1,n,h=>by
   unfold D8;split
   .exact sW A k _ (yX h)
   .exact h
theorem yF(A:List aQ):∀k n,(∃j,j<k/\A.any (fun s=>s.ID==Rn j n)=false)->A.any (fun s=>s.ID==D8 A k n)=false
 | 0,n,⟨j,hj,_⟩=>by omega
 | k+1,n,⟨j,hj,hb⟩=>by
   unfold D8;split
   .rename_i h;cases j with
    | zero=>rw[Rn]at hb;rw[hb]at h;cases h
    | succ j=>exact yF A k _ ⟨j,by omega,hb⟩
   .grind
def qd(m:aJ)(mO:Int)(b:List Int):aJ:={m with Out:=m.Out++[⟨mO,b⟩]}
def jC(m:aJ)(s:aQ):aJ:=qd m 5 (Sg.iq s)
def kH(m:aJ):aJ:={m with bV:=after (oU m)}
def fG(s:aQ)(n:Int):aQ:={s with ID:=n}
def tL(m:aJ)(s:aQ):aJ:={jC (kH m) (fG s (oU m))with aB:=m.aB++[fG s (oU m)]}
def nX(m:aJ)(c:aM):aJ:=if bE m c.ap=true then m else tL m ⟨6,0,0,c.ap,c.al,0,0,0,0,⟨0,0,0,0,0⟩⟩
def gI(m:aJ)(i:Nat)(c:aM):aJ:={m with aj:=m.aj.set i c}
def wm(x:bO)(m:aJ):bO:={x with aD:=m}
def gX(s:aQ):Prop:=Sg.yR s=0/\0<=s.bT/\s.bT<=65535
theorem ko:FF=1125899906842624:=rfl
theorem Vp{b}(h:¬ b=true):(!b)=true:=by cases b<;>simp_all
theorem Yw l c(hl:l.length<=1000000):q4b FF l c=some (l.any (fun s=>(s.ae==6)&&(s.ab==c.ap)),c):=by
 unfold q4b q5d;have k:=lI (F:=FF) (body:=fun s:aM×Int=>ZH FF l s.1 s.2) (l:=l) (p:=fun s=>(s.ae==6)&&(s.ab==c.ap)) (c:=c) (g:=fun i=>(i,c)) (fun i x hx=>by
  have hlt:=(gS.1 hx).1;show ZH FF l _ _=_;unfold ZH q5c;rw[i5,aX hx];simp only[bs,wN i (by omega)];split<;>rfl) (by
  show ZH FF l _ _=_;unfold ZH;rw[h9]) (by rw[ko];omega)
 rw[k,<-tq];unfold fidx;cases l.findIdx? (fun s=>(s.ae==6)&&(s.ab==c.ap))<;>rfl
theorem Yv l n(hl:l.length<=1000000):q46 FF l n=some (l.any (fun s=>s.ID==n),n):=by
 unfold q46 q59;have k:=lI (F:=FF) (body:=fun s:Int×Int=>ZM FF l s.1 s.2) (l:=l) (p:=fun s=>s.ID==n) (c:=n) (g:=fun i=>(i,n)) (fun i x hx=>by
  have hlt:=(gS.1 hx).1;show ZM FF l _ _=_;unfold ZM q58;rw[i5,aX hx];simp only[bs,wN i (by omega)];split<;>rfl) (by
  show ZM FF l _ _=_;unfold ZM;rw[h9]) (by rw[ko];omega)
 rw[k,<-tq];unfold fidx;cases l.findIdx? (fun s=>s.ID==n)<;>rfl
theorem Da{α β:Type}{body:Int->Option (Out Int (Sum Unit β))}{l:List α}{p}{g:Int->β}(h:∀(i:Nat) x,l[i]?=some x->body (i:Int)=some (if p x=true then .done (.inr (g (i:Int)))else .next ((i+1:Nat):Int)))(he:body (l.length:Int)=some (.done (.inl ())))
 {F} (hF:l.length<F):iter body F 0=some (match l.findIdx? p with
  | some i=>.inr (g (i:Int))
  | none=>.inl ()):=by
 have key:∀(m:List α) (F k:Nat),l.drop k=m->k<=l.length->m.length<F->iter body F (k:Int)=some (match m.findIdx? p with
  | some i=>.inr (g ((k+i:Nat):Int))
  | none=>.inl ()):=by
  intro m
  induction m with
  | nil=>
    intro F k hd hk hF;have hk2:k=l.length:=by grind
    subst hk2;cases F with
    | zero=>simp at hF
    | succ F=>rw[bF he];rfl
  | cons x m ih=>
    intro F k hd hk hF;have hx:l[k]?=some x:=by
     have:=congrArg (fun z:List α=>z[0]?) hd;simpa using this
    have hlt:=(gS.1 hx).1;have hd2:l.drop (k+1)=m:=by
     have:=congrArg List.tail hd;simpa using this
    have hb:=h k x hx;cases F with
    | zero=>simp at hF
    | succ F=>
      rw[List.findIdx?_cons];by_cases hp:p x=true
      .rw[pG0 hp]at hb;rw[bF hb,pG0 hp];simp
      .rw[nG0 hp]at hb;rw[bY hb,ih F (k+1) hd2 hlt (by simp at hF;omega),nG0 hp];cases m.findIdx? p with
       | none=>rfl
       | some i=>
         simp only[Option.map_some];rw[show k+1+i=k+(i+1) by omega]
 have:=key l F 0 (by simp) (by omega) hF;rw[show((0:Nat):Int)=0 from rfl]at this;rw[this];cases l.findIdx? p with
 | none=>rfl
 | some i=>simp
theorem ac1 l(hl:l.length<=1000000):q54 FF l=some (l.any fun s=>s.ae==18):=by
 unfold q54 q5q;have k:=Da (F:=FF) (body:=fun s=>Zz FF l s) (l:=l) (p:=fun s=>s.ae==18) (g:=fun i=>i) (fun i x hx=>by
  have hlt:=(gS.1 hx).1;show Zz FF l _=_;unfold Zz q5p;rw[i5,aX hx];simp only[bs,wN i (by omega)];split<;>rfl) (by
  show Zz FF l _=_;unfold Zz;rw[h9]) (by rw[ko];omega)
 rw[k,<-tq];unfold fidx;cases l.findIdx? (fun s=>s.ae==18)<;>rfl
theorem abS l n(hl:l.length<=1000000):q4j FF l n=some (fidx (fun c=>c.ap==n) l,n):=by
 unfold q4j fidx;have k:=lI (F:=FF) (body:=fun s:Int×Int=>ZF FF l s.1 s.2) (l:=l) (p:=fun c=>c.ap==n) (c:=n) (g:=fun i=>(i,n)) (fun i x hx=>by
  have hlt:=(gS.1 hx).1;show ZF FF l _ _=_;unfold ZF q5j;rw[i5,aX hx];simp only[bs,wN i (by omega)];split<;>rfl) (by
  show ZF FF l _ _=_;unfold ZF;rw[h9]) (by rw[ko];omega)
 rw[k];cases l.findIdx? (fun c:aM=>c.ap==n)<;>rfl
theorem abA l n(hl:l.length<=1000000):q4t FF l n=some (fidx (fun c=>c.al==n) l,n):=by
 unfold q4t fidx;have k:=lI (F:=FF) (body:=fun s:Int×Int=>ZA FF l s.1 s.2) (l:=l) (p:=fun c=>c.al==n) (c:=n) (g:=fun i=>(i,n)) (fun i x hx=>by
  have hlt:=(gS.1 hx).1;show ZA FF l _ _=_;unfold ZA q5n;rw[i5,aX hx];simp only[bs,wN i (by omega)];split<;>rfl) (by
  show ZA FF l _ _=_;unfold ZA;rw[h9]) (by rw[ko];omega)
 rw[k];cases l.findIdx? (fun c:aM=>c.al==n)<;>rfl
theorem U5 l v(hl:l.length<=10000000):q2a FF l v=some (l.any fun x=>v==x):=by
 unfold q2a q57;have k:=Da (F:=FF) (body:=fun s=>ZO FF l v s) (l:=l) (p:=fun x=>v==x) (g:=fun i=>i) (fun i x hx=>by
  have hlt:=(gS.1 hx).1;show ZO FF l v _=_;unfold ZO;rw[i5,aX hx];simp only[bs,wN i (by omega)];split<;>rfl) (by
  show ZO FF l v _=_;unfold ZO;rw[h9]) (by rw[ko];omega)
 rw[k,<-tq];unfold fidx;cases l.findIdx? (fun x=>v==x)<;>rfl
theorem nJ x c(h:x.aD.aB.length<=1000000):qr FF x c=some (bE x.aD c.ap):=by
 unfold qr;rw[Yw _ c h];rfl
theorem wQ x n(h:x.aD.aj.length<=1000000):q14 FF x n=some (D9 x.aD n):=by
 unfold q14;rw[abS _ n h];rfl
theorem yC x n(h:x.aD.aj.length<=1000000):q1e FF x n=some (JI x.aD n):=by
 unfold q1e;rw[abA _ n h];rfl
theorem Jb l v(hl:l.length<=5000000):q2b FF v l=some (uI l v):=by
 unfold q2b uI;rw[U5 l v (by omega),bs];by_cases h:l.any (fun x=>v==x)=true
 .grind
 .rw[pG0 (Vp h),nG0 h,dX (by simp;omega) (by omega)];rfl
theorem OY l cs c:qJ l (cs++[c])=uI (qJ l cs) c.ap:=by simp[qJ]
theorem OZ l as s:qM l (as++[s])=if (s.ae==20||s.ae==6)=true then uI (qM l as) s.ab else qM l as:=by grind [qM]
theorem GA x(h1:x.aD.aj.length<=1000000)(h2:x.aD.aB.length<=1000000):q45 FF x=some (sD x.aD):=by
 unfold q45;have k:=eG (body:=fun s:List Int×Int=>XF FF x s.1 s.2) (fun i=>(qJ [] (x.aD.aj.take i),(i:Int))) x.aD.aj.length (qJ [] x.aD.aj) (fun i hi=>by
  have hx:x.aD.aj[i]?=some x.aD.aj[i]:=gE hi;have hln:=(qI (x.aD.aj.take i) [] (by simp)).2.1;rw[lT0]at hln;show XF FF x (qJ [] (x.aD.aj.take i)) (i:Int)=_;unfold XF;rw[i5,aX hx,bs,Jb _ _ (by simp at hln;omega)];simp only[bs,wN i (by omega)];rw[<-jA hx,OY]) (by
  show XF FF x _ _=_;unfold XF;rw[h9,List.take_length]) FF 0 (by omega) (by rw[ko];omega)
 rw[List.take_zero,show((0:Nat):Int)=0 from rfl]at k;have k':iter (fun s:List Int×Int=>XF FF x s.1 s.2) FF ([],0)=some (qJ [] x.aD.aj):=k;rw[k',bs];unfold q6l;have hC:=(qI x.aD.aj [] (by simp));have k2:=eG (body:=fun s:List Int×Int=>XG FF x s.1 s.2) (fun i=>(qM (qJ [] x.aD.aj) (x.aD.aB.take i),(i:Int))) x.aD.aB.length (sD x.aD) (fun i hi=>by
  have hx:x.aD.aB[i]?=some x.aD.aB[i]:=gE hi;have hln:=(qK (x.aD.aB.take i) _ hC.1).2.1;have hC2:=hC.2.1;rw[lT0]at hln;show XG FF x (qM (qJ [] x.aD.aj) (x.aD.aB.take i)) (i:Int)=_;unfold XG q5w;rw[i5,aX hx,bs,<-jA hx,OZ];by_cases hk:(x.aD.aB[i].ae==20||x.aD.aB[i].ae==6)=true
  .rw[pG0 hk,pG0 hk,Jb _ _ (by simp at hC2;omega)];simp only[bs,wN i (by omega)]
  .rw[nG0 hk,nG0 hk,wN i (by omega)]) (by
  show XG FF x _ _=_;unfold XG;rw[h9,List.take_length];rfl) FF 0 (by omega) (by rw[ko];omega)
 rw[List.take_zero,show((0:Nat):Int)=0 from rfl]at k2;have k2':iter (fun s:List Int×Int=>XG FF x s.1 s.2) FF (qJ [] x.aD.aj,0)=some (sD x.aD):=k2;rw[k2'];rfl
theorem Oa x(h1:x.aD.aj.length<=1000000)(h2:x.aD.aB.length<=1000000)(hc:DR x.aD):q17 FF x=some (if gK x.aD<16 then ji x.aD else 0,decide (gK x.aD<16)):=by
 unfold q17;rw[GA x h1 h2,bs];have hl:=OX hc;by_cases h16:gK x.aD<16
 .rw[nG0 (df (show ¬ (len (sD x.aD)>=16) by rw[lN];omega)),pG0 h16,dt h16];obtain⟨v,f1,f2,f3,f4,f5⟩:=j6 (m:=x.aD) (by omega);have hmem:=(y9 x.aD).2.2;have hlt:∀u,64<=u->u<v->gB x.aD u=true:=fun u hu huv=>by
   rw[List.find?_eq_some_iff_getElem]at f1;obtain⟨_,i,hi,hiv,hbef⟩:=f1;have Ku:∀(j:Nat) (hj:j<nZ.length),nZ[j]=64+(j:Int):=fun j hj=>by simp[nZ]
   have hcl:nZ.length=64:=by simp[nZ]
   rw[Ku]at hiv;have:=hbef (u-64).toNat (by omega);rw[Ku]at this;rw[show(64:Int)+((u-64).toNat:Int)=u by omega]at this;simpa using this
  have loop:∀(k F:Nat) (u:Int),64<=u->u+k=v->k<F->iter (fun s=>ZN FF (sD x.aD) s) F u=some v:=by
   intro k
   induction k with
   | zero=>
     intro F u h1' h2' hF;cases F with
     | zero=>omega
     | succ F=>
       have:u=v:=by omega
       subst this;refine bF ?_;show ZN FF _ u=_;unfold ZN;rw[U5 _ _ (by omega),bs,nG0 (by
        rw[List.any_eq_true];rintro⟨y,hy,he⟩;have:u=y:=by simpa using he
        subst this;rw[(hmem u).1 hy]at f3;cases f3)]
   | succ k ih=>
     intro F u h1' h2' hF;cases F with
     | zero=>omega
     | succ F=>
       rw[bY (s':=u+1) (by
        show ZN FF _ u=_;unfold ZN;rw[U5 _ _ (by omega),bs,pG0 (by
         rw[List.any_eq_true];exact⟨u,(hmem u).2 (hlt u h1' (by omega)),by simp⟩),jJ (by omega) (by omega)])]
       exact ih F (u+1) (by omega) (by omega) (by omega)
  rw[loop (v-64).toNat FF 64 (by omega) (by omega) (by rw[ko];omega),f2];rfl
 .rw[pG0 (dt (show len (sD x.aD)>=16 by rw[lN];omega)),nG0 h16,decide_eq_false h16]
theorem wV x:qy FF x=some (decide (len x.aD.Out>=64)):=rfl
theorem Z5 x(hn:1<=x.aD.bV/\x.aD.bV<=255)(hA:x.aD.aB.length<255):q1p FF x=some (oU x.aD,wm x (kH x.aD)):=by
 unfold q1p;have loop:∀(r F k:Nat) (n:Int),k+r=255->1<=n/\n<=256->(∃j,j<r/\x.aD.aB.any (fun s=>s.ID==Rn j (if n>255 then 1 else n))=false)->r<F->iter (fun s:Int×Int=>ZL FF x s.1 s.2) F (n,(k:Int))=some (D8 x.aD.aB r (if n>255 then 1 else n)):=by
  intro r
  induction r with
  | zero=>intro F k n _ _ h _;obtain⟨j,hj,_⟩:=h;omega
  | succ r ih=>
    intro F k n hk hn' hex hF;cases F with
    | zero=>omega
    | succ F=>
      have hb:ZL FF x n (k:Int)=q47 FF x (k:Int) (if n>255 then 1 else n):=by grind [ZL]
      generalize hq:(if n>255 then 1 else n)=q at *;have hqr:1<=q/\q<=255:=by subst hq;split<;>omega
      unfold D8;have hb2:q47 FF x (k:Int) q=some (if x.aD.aB.any (fun s=>s.ID==q)=true then .next (q+1,((k+1:Nat):Int))else .done q):=by
       unfold q47;rw[Yv _ q (by omega),bs];by_cases h:x.aD.aB.any (fun s=>s.ID==q)=true
       .rw[nG0 (by simp[h]),pG0 h,bW (x:=q+1) (by omega) (by omega),wN k (by omega)]
       .grind
      by_cases h:x.aD.aB.any (fun s=>s.ID==q)=true
      .rw[pG0 h]at hb2;have hb3:=hb.trans hb2;rw[pG0 h,bY (s':=(q+1,((k+1:Nat):Int))) (by
        show ZL FF x n (k:Int)=_;rw[hb3])]
       have e:(if q+1>255 then 1 else q+1)=after q:=by unfold after;split<;>split<;>omega
       obtain⟨j,hj,hjb⟩:=hex;have:=ih F (k+1) (q+1) (by omega) (by omega) (by
        rw[e];cases j with
        | zero=>rw[Rn]at hjb;rw[hjb]at h;cases h
        | succ j=>exact⟨j,by omega,hjb⟩) (by omega)
       rw[e]at this;exact this
      .rw[nG0 h]at hb2;have hb3:=hb.trans hb2;rw[nG0 h,bF (o:=q) (by
        show ZL FF x n (k:Int)=_;rw[hb3])]
 have hex:=uW x.aD.aB x.aD.bV hn hA;have k:=loop 255 FF 0 x.aD.bV rfl ⟨hn.1,by omega⟩ (by rw[f7];exact hex) (by rw[ko];omega);rw[f7,show((0:Nat):Int)=0 from rfl]at k;rw[k,bs];unfold q6m;have hr:=sW x.aD.aB 255 x.aD.bV hn;have e:aL (iE (D8 x.aD.aB 255 x.aD.bV) 255+1)=after (oU x.aD):=by
  unfold iE after oU;rw[Int.tmod_eq_emod_of_nonneg (by omega),i7];split<;>omega
 rw[e];rfl
theorem Cn x mO b(hb:b.length<=10000000)(ho:x.aD.Out.length<=1000000000):q19 FF x mO b=some (wm x (qd x.aD mO b)):=by
 unfold q19;rw[join_one FF b (by rw[ko];omega) (by omega),bs,dX (by simp;omega) (by omega)];rfl
theorem Az s:(Sg.iq s).length<=14:=by
 have:=Sg.xB s;unfold Sg.iq;simp;omega
theorem uo x s(hs:gX s)(ho:x.aD.Out.length<=1000000000):qf FF x s=some (wm x (jC x.aD s)):=by
 unfold qf;have hl:=Az s;rw[Sg.WT s ⟨hs.2.1,hs.2.2⟩,bs];unfold Sg.Ik;rw[pG0 hs.1];simp only
 rw[pG0 (by simp),Cn x 5 _ (by omega) ho];rfl
theorem M0 x s(hs:gX (fG s (oU x.aD)))(hn:1<=x.aD.bV/\x.aD.bV<=255)(hA:x.aD.aB.length<255)(ho:x.aD.Out.length<=1000000000):q1a FF x s=some (wm x (tL x.aD s)):=by
 unfold q1a;rw[Z5 x hn hA];simp only[bs];have e:=uo (wm x (kH x.aD)) (fG s (oU x.aD)) hs ho;unfold fG at e;rw[e,bs];have hAl:(wm (wm x (kH x.aD)) (jC (wm x (kH x.aD)).aD {s with ID:=oU x.aD})).aD.aB=x.aD.aB:=rfl;rw[hAl,dX (by simp;omega) (by omega)];rfl
theorem vR x e(he:x.ar.length<=1000000000):qe FF x e=some {x with ar:=x.ar++[e]}:=by
 unfold qe;rw[dX (by simp;omega) (by omega)];rfl
theorem UH x(i:Nat)c(hc:x.aD.aj[i]?=some c)(hs:gX (fG ⟨6,0,0,c.ap,c.al,0,0,0,0,⟨0,0,0,0,0⟩⟩ (oU x.aD)))(hn:1<=x.aD.bV/\x.aD.bV<=255)(hA:x.aD.aB.length<255)(ho:x.aD.Out.length<=1000000000):XH FF x (i:Int)=some (wm x (nX x.aD c)):=by
 unfold XH nX;rw[aX hc,bs,nJ x c (by omega),bs];by_cases h:bE x.aD c.ap=true
 .rw[nG0 (by simp[h]),pG0 h];rfl
 .grind [Vp,M0]
theorem tV{α l}{i:Nat}{x y:α}(h:l[i]?=some x):upd l (i:Int) y=some (l.set i y):=by grind [upd]
def zu:jP:=⟨0,0,0,0,0⟩
structure MInv(k:Nat)(m:aJ):Prop where
 Mk:m.ak.length<=64
 Qi:∀l∈m.ak,je l.dh=true/\je l.cZ=true/\countB l.aA=true
 next:1<=m.bV/\m.bV<=255
 ask:∀s∈m.aB,gX s/\(s.ae=20\/s.ae=6\/s.ae=18)
 yV:((m.aB.filter fun s=>s.ae==20||s.ae==6).map (·.ab)).Nodup
 z8:(m.aB.filter fun s=>s.ae==18).length<=1
 nQ:m.aj.Pairwise fun a b=>a.ap<b.ap
 oZ:∀c∈m.aj,Sd.Ok c
 yO:∀c∈m.aj,∀s∈m.aB,s.ae=20->s.ab≠c.ap
 cnt:gK m<=16
 out:∀f∈m.Out,f.am.length<=4096/\1<=f.aY/\f.aY<=65535
 pG:m.Out=[]->m.aS=0
 sent:∀f r,m.Out=f::r->0<=m.aS/\m.aS<4+f.am.length
 asm:Fr.Val m.ay
 jV:m.Out.length<=k
theorem jG{c}(h:Sd.Ok c):(64<=c.ap/\c.ap<=127)/\64<=c.al/\c.al<=127:=by
 have:=h.ids;omega
theorem GJ{s}(h:gX s)(hk:s.ae=20\/s.ae=6):64<=s.ab/\s.ab<=127:=by
 obtain⟨_,_,_,_,_,h6⟩:=Sg.iB h.1;rcases h6 with h6|⟨h6,_⟩
 .omega
 .unfold Sg.iV at h6;rcases hk with hk|hk
  .rw[hk]at h6;simp[Sg.aI,Sg.mM]at h6;omega
  .rw[hk]at h6;simp[Sg.aI,Sg.mM]at h6;omega
theorem MInv.ids{k m}(h:MInv k m):DR m:=⟨fun c hc=>(jG (h.oZ c hc)).1,fun s hs hk=>GJ (h.ask s hs).1 hk⟩
theorem NR{m}(hc:DR m){v}(h:gB m v=true):v∈nZ.filter (gB m):=by grind [xu,FQ]
theorem MInv.rE{k m}(h:MInv k m):m.aj.length<=16:=by
 have hn:(m.aj.map (·.ap)).Nodup:=by
  unfold List.Nodup;rw[List.pairwise_map];exact h.nQ.imp fun h=>by omega
 have:=jK _ (nZ.filter (gB m)) hn fun x hx=>by
  rw[List.mem_map]at hx;obtain⟨c,hc,rfl⟩:=hx;exact NR h.ids ((eH m _).2 (.inl ⟨c,hc,rfl⟩))
 rw[List.length_map]at this;have:=h.cnt;unfold gK at this;omega
theorem O5(l:List aQ)(h:∀s∈l,s.ae=20\/s.ae=6\/s.ae=18):l.length=(l.filter fun s=>s.ae==20||s.ae==6).length+(l.filter fun s=>s.ae==18).length:=by
 induction l with
 | nil=>rfl
 | cons s l ih=>
   have h1:=ih fun x hx=>h x (by simp[hx]);rcases h s (by simp)with hk|hk|hk<;>simp[List.filter_cons,hk]<;>omega
theorem MInv.rH{k m}(h:MInv k m):m.aB.length<=17:=by
 have h1:=O5 m.aB fun s hs=>(h.ask s hs).2;have h2:=jK _ (nZ.filter (gB m)) h.yV fun x hx=>by
  rw[List.mem_map]at hx;obtain⟨s,hs,rfl⟩:=hx;rw[List.mem_filter]at hs;exact NR h.ids ((eH m _).2 (.inr ⟨s,hs.1,by simpa using hs.2,rfl⟩))
 rw[List.length_map]at h2;have h3:=h.cnt;have h4:=h.z8;unfold gK at h3;omega
theorem MInv.sz{k m}(h:MInv k m)(hk:k<=1000000000):Sz m:=by
 have h1:=h.Mk;have h2:=h.rH;have h3:=h.rE;have h4:=h.jV;have h5:=h.asm.len;exact⟨by omega,by omega,by omega,by omega,fun c hc=>by have h:=(h.oZ c hc).sm;exact⟨h.out,h.inn⟩,fun c hc=>(h.oZ c hc).sm.each,fun f hf=>by have:=(h.out f hf).1;omega,by omega⟩
theorem MInv.more{k n m}(h:MInv k m)(hn:k<=n):MInv n m:={h with jV:=Nat.le_trans h.jV hn}
theorem tT{m m'}(h:∀v,gB m' v=true->gB m v=true):gK m'<=gK m:=by
 unfold gK;refine jK _ _ (vC.filter _) fun x hx=>?_;rw[List.mem_filter]at hx |-;exact⟨hx.1,h x hx.2⟩
theorem ES{m m'}w(h:∀v,gB m' v=true->gB m v=true\/v=w):gK m'<=gK m+1:=by
 unfold gK;have:=jK (nZ.filter (gB m')) (w::nZ.filter (gB m)) (vC.filter _) fun x hx=>by grind
 rwa [lC0]at this
theorem MInv.qd{k:Nat}{m:aJ}(h:MInv k m){mO:Int}{b:List Int}(hb:b.length<=4096)(hc:1<=mO/\mO<=65535):MInv (k+1) (qd m mO b):=by
 refine⟨h.Mk,h.Qi,h.next,h.ask,h.yV,h.z8,h.nQ,h.oZ,h.yO,h.cnt,?_,?_,?_,h.asm,?_⟩
 .intro f hf;rcases List.mem_append.1 hf with hf|hf
  .exact h.out f hf
  .grind
 .intro e;exact absurd (congrArg List.length e) (by simp[V.qd])
 .intro f r e;cases ho:m.Out with
  | nil=>
    have h1:=h.pG ho;show 0<=m.aS/\m.aS<_;rw[h1];omega
  | cons g t=>
    have h1:=h.sent g t ho;have e':m.Out++[⟨mO,b⟩]=f::r:=e;rw[ho,List.cons_append]at e';injection e' with e1 _;subst e1;exact h1
 .show(m.Out++[_]).length<=k+1;have:=h.jV;simp;omega
theorem MInv.say{k m}(h:MInv k m)s:MInv (k+1) (jC m s):=h.qd (by have:=Az s;omega) ⟨by decide,by decide⟩
theorem MInv.tick{k m}(h:MInv k m):MInv k (kH m):=
 ⟨h.Mk,h.Qi,yX (sW m.aB 255 m.bV h.next),h.ask,h.yV,h.z8,h.nQ,h.oZ,h.yO,h.cnt,h.out,h.pG,h.sent,h.asm,h.jV⟩
theorem MInv.asked{k m}(h:MInv k m){s}(hs:gX s)(hk:(s.ae=20/\gB m s.ab=false/\gK m<16)\/(s.ae=6/\bE m s.ab=false/\∃c∈m.aj,c.ap=s.ab)\/(s.ae=18/\m.aB.any (fun s=>s.ae==18)=false)):MInv k {m with aB:=m.aB++[s]}:=by
 have hu:∀v,gB {m with aB:=m.aB++[s]} v=true↔gB m v=true\/((s.ae=20\/s.ae=6)/\s.ab=v):=fun v=>by grind [eH,mS]
 have hnew:∀t∈m.aB,(t.ae=20\/t.ae=6)->(s.ae=20\/s.ae=6)->t.ab≠s.ab:=fun t ht htk hsk e=>by
  rcases hk with⟨_,h2,_⟩|⟨h1,h2,c,hc,h3⟩|⟨h1,_⟩
  .grind [eH]
  .rcases htk with htk|htk
   .exact h.yO c hc t ht htk (by rw[e,h3])
   .grind [bE]
  .omega
 refine⟨h.Mk,h.Qi,h.next,?_,?_,?_,h.nQ,h.oZ,?_,?_,h.out,h.pG,h.sent,h.asm,h.jV⟩
 .intro t ht;rcases List.mem_append.1 ht with ht|ht
  .exact h.ask t ht
  .grind
 .show(((m.aB++[s]).filter _).map _).Nodup;rw[List.filter_append,List.map_append,List.nodup_append];refine⟨h.yV,?_,?_⟩
  .grind
  .grind
 .show((m.aB++[s]).filter _).length<=1;rw[List.filter_append,lA];have:=h.z8;by_cases hq:(s.ae==18)=true
  .have hq':s.ae=18:=by simpa using hq
   rcases hk with⟨h1,_⟩|⟨h1,_⟩|⟨_,h2⟩
   .omega
   .omega
   .have:m.aB.filter (fun s=>s.ae==18)=[]:=by
     rw[List.filter_eq_nil_iff];rw[List.any_eq_false]at h2;exact h2
    rw[this];simp[List.filter_cons,hq]
  .grind
 .intro c hc t ht htk;rcases List.mem_append.1 ht with ht|ht
  .exact h.yO c hc t ht htk
  .grind [mS,eH]
 .have h16:=h.cnt;rcases hk with⟨h1,h2,h3⟩|⟨h1,h2,c,hc,h3⟩|⟨h1,h2⟩
  .have:=ES (m:=m) (m':={m with aB:=m.aB++[s]}) s.ab fun v hv=>by
    rcases(hu v).1 hv with h|⟨_,h⟩
    .exact .inl h
    .exact .inr h.symm
   omega
  .have:=tT (m:=m) (m':={m with aB:=m.aB++[s]}) fun v hv=>by
    rcases(hu v).1 hv with h|⟨_,h⟩
    .exact h
    .grind [eH]
   omega
  .have:=tT (m:=m) (m':={m with aB:=m.aB++[s]}) fun v hv=>by
    rcases(hu v).1 hv with h|⟨h,_⟩
    .exact h
    .omega
   omega
theorem MInv.tL{k:Nat}{m:aJ}(h:MInv k m){s:aQ}(hs:gX (fG s (oU m)))(hk:(s.ae=20/\gB m s.ab=false/\gK m<16)\/(s.ae=6/\bE m s.ab=false/\∃c∈m.aj,c.ap=s.ab)\/(s.ae=18/\m.aB.any (fun s=>s.ae==18)=false)):MInv (k+1) (tL m s):=
 (h.tick.say (fG s (oU m))).asked hs hk
theorem kM{k m}(h:MInv k m):1<=oU m/\oU m<=255:=sW m.aB 255 m.bV h.next
theorem GQ{id psm src nV mps cr}(hi:1<=id/\id<=255)(hp:1<=psm/\psm<=65535)(hs:64<=src/\src<=127)(h1:je nV=true)(h2:je mps=true)(h3:countB cr=true):gX ⟨20,id,psm,src,0,nV,mps,cr,0,zu⟩:=by
 refine⟨?_,by simp only;omega,by simp only;omega⟩;unfold je at h1 h2;unfold countB at h3;simp only[Bool.and_eq_true,decide_eq_true_eq]at h1 h2 h3;unfold Sg.yR;rw[nG0 (by simp[Sg.aI]),i4,nG0 (by simp[Sg.fH,Sg.aI,Sg.xU,zu]),nG0 (by simp[Sg.lq,Sg.aI]),f8,nG0 (by simp[Sg.aI];omega),nG0 (by simp[Sg.iV,Sg.aI,Sg.mO,Sg.Zl];omega),nG0 (by simp[Sg.aI])]
theorem vU{id src dst}(hi:1<=id/\id<=255)(hs:64<=src/\src<=127)(hd:64<=dst/\dst<=127)kd(hk:kd=6\/kd=7):gX ⟨kd,id,0,src,dst,0,0,0,0,zu⟩:=by
 refine⟨?_,by simp only;omega,by simp only;omega⟩;unfold Sg.yR;rcases hk with rfl|rfl
 .rw[nG0 (by simp[Sg.aI]),i4,nG0 (by simp[Sg.fH,Sg.aI,Sg.xU,zu]),nG0 (by simp[Sg.lq,Sg.aI]),f8,nG0 (by simp[Sg.aI]),nG0 (by simp[Sg.iV,Sg.aI,Sg.mO];omega),nG0 (by simp[Sg.aI])]
 .rw[nG0 (by simp[Sg.aI]),i4,nG0 (by simp[Sg.fH,Sg.aI,Sg.xU,zu]),nG0 (by simp[Sg.lq,Sg.aI]),f8,nG0 (by simp[Sg.aI]),nG0 (by simp[Sg.iV,Sg.aI,Sg.mO];omega),nG0 (by simp[Sg.aI])]
theorem GL{id u}(hi:1<=id/\id<=255)(hu:Sg.og u=0):gX ⟨18,id,0,0,0,0,0,0,0,u⟩:=by
 refine⟨?_,by simp only;omega,by simp only;omega⟩;unfold Sg.yR;rw[nG0 (by simp[Sg.aI]),i4,nG0 (by simp[Sg.fH,Sg.aI]),nG0 (by simp[Sg.lq,Sg.aI]),f8,nG0 (by simp[Sg.aI]),nG0 (by simp[Sg.iV,Sg.aI]),pG0 (by simp[Sg.aI]),hu]
theorem qO{id r}(hi:1<=id/\id<=255)kd(hk:(kd=19/\(r=0\/r=1))\/(kd=1/\(r=0\/r=2))):gX ⟨kd,id,0,0,0,0,0,0,r,zu⟩:=by
 refine⟨?_,by simp only;omega,by simp only;omega⟩;unfold Sg.yR;rcases hk with⟨rfl,h⟩|⟨rfl,h⟩
 .rw[nG0 (by simp[Sg.aI]),i4,nG0 (by simp[Sg.fH,Sg.aI,Sg.xU,zu]),nG0 (by simp[Sg.lq,Sg.aI];omega),f8,nG0 (by simp[Sg.aI]),nG0 (by simp[Sg.iV,Sg.aI]),nG0 (by simp[Sg.aI])]
 .rw[nG0 (by simp[Sg.aI]),i4,nG0 (by simp[Sg.fH,Sg.aI,Sg.xU,zu]),nG0 (by simp[Sg.lq,Sg.aI];omega),f8,nG0 (by simp[Sg.aI]),nG0 (by simp[Sg.iV,Sg.aI]),nG0 (by simp[Sg.aI])]
theorem FFk:5000<FF/\100000<FF/\1000<FF:=by decide
theorem yH m n:(D9 m n = -1/\m.aj.any (fun c=>c.ap==n)=false)\/∃(i:Nat) (c:aM),D9 m n=(i:Int)/\m.aj[i]?=some c/\c.ap=n:=by
 rcases vg (fun c:aM=>c.ap==n) m.aj with h|⟨i,c,h1,h2,h3,_⟩
 .exact .inl h
 .exact .inr ⟨i,c,h1,h2,by simpa using h3⟩
theorem PG m n:(JI m n = -1/\m.aj.any (fun c=>c.al==n)=false)\/∃(i:Nat) (c:aM),JI m n=(i:Int)/\m.aj[i]?=some c/\c.al=n:=by
 rcases vg (fun c:aM=>c.al==n) m.aj with h|⟨i,c,h1,h2,h3,_⟩
 .exact .inl h
 .exact .inr ⟨i,c,h1,h2,by simpa using h3⟩
theorem MInv.chans{k m}(h:MInv k m){l}(hl:l.map (·.ap)=m.aj.map (·.ap))(hok:∀c∈l,Sd.Ok c):MInv k {m with aj:=l}:=by
 have hm:∀v,(∃c∈l,c.ap=v)↔∃c∈m.aj,c.ap=v:=fun v=>by
  have h1:v∈l.map (·.ap)↔v∈m.aj.map (·.ap):=by rw[hl]
  simpa only[List.mem_map]using h1
 refine⟨h.Mk,h.Qi,h.next,h.ask,h.yV,h.z8,?_,hok,?_,?_,h.out,h.pG,h.sent,h.asm,h.jV⟩
 .have h1:=h.nQ;rw[<-List.pairwise_map (f:=fun c:aM=>c.ap) (R:=(· < ·))]at h1;have h2:(l.map (·.ap)).Pairwise (· < ·):=by rw[hl];exact h1
  rwa [List.pairwise_map]at h2
 .intro c hc s hs hk;obtain⟨c',hc',he⟩:=(hm c.ap).1 ⟨c,hc,rfl⟩;rw[<-he];exact h.yO c' hc' s hs hk
 .refine Nat.le_trans (tT fun v hv=>?_) h.cnt;rw[eH]at hv |-;rcases hv with hv|hv
  .exact .inl ((hm v).1 hv)
  .exact .inr hv
theorem map_set{l:List aM}{i c c'}(hc:l[i]?=some c)(he:c'.ap=c.ap):(l.set i c').map (·.ap)=l.map (·.ap):=by
 apply List.ext_getElem?;intro j;rw[List.getElem?_map,List.getElem?_map,List.getElem?_set];by_cases hj:i=j
 .grind
 .rw[nG0 hj]
theorem MInv.put{k m}(h:MInv k m){i c c'}(hc:m.aj[i]?=some c)(hok:Sd.Ok c')(he:c'.ap=c.ap):MInv k (gI m i c'):=
 h.chans (map_set hc he) fun d hd=>by
  rcases List.mem_or_eq_of_mem_set hd with hd|rfl
  .exact h.oZ d hd
  .exact hok
theorem ND x n(h1:x.aD.aj.length<=1000000)(h2:x.aD.aB.length<=1000000):q31 FF x n=some (if D9 x.aD n<0 then(0,6)else if bE x.aD n=true then(0,9)else(D9 x.aD n,0)):=by
 unfold q31;rw[wQ x n h1,bs];rcases yH x.aD n with⟨h,_⟩|⟨i,c,h,hc,hn⟩
 .grind
 .grind [df,aX,bs,nJ,bE]
theorem MInv.nX{k:Nat}{m:aJ}(h:MInv k m){c:aM}(hc:c∈m.aj):gX (fG ⟨6,0,0,c.ap,c.al,0,0,0,0,⟨0,0,0,0,0⟩⟩ (oU m))/\MInv (k+1) (nX m c):=by
 have hi:=jG (h.oZ c hc);have hs:gX (fG ⟨6,0,0,c.ap,c.al,0,0,0,0,⟨0,0,0,0,0⟩⟩ (oU m)):=vU (kM h) hi.1 hi.2 6 (.inl rfl);refine⟨hs,?_⟩;unfold V.nX;split
 .exact h.more (by omega)
 .rename_i hb;exact h.tL hs (.inr (.inl ⟨rfl,(Bool.not_eq_true _).mp hb,c,hc,rfl⟩))
def Ak(l:List aM)(fr:List (List (List Int)))(rd:Nat)(m:aJ)(i:Nat):aJ:=match fr[i]?,l[i]? with
 | some f,some c=>(match f[rd]? with
   | some b=>qd m c.al b
   | none=>m)
 | _,_=>m
def eF(l:List aM)(fr:List (List (List Int)))(rd:Nat)(m:aJ)(n:Nat):aJ:=(List.range n).foldl (Ak l fr rd) m
def fu(l:List aM)(fr:List (List (List Int)))(m:aJ)(n:Nat):aJ:=(List.range n).foldl (fun m rd=>eF l fr rd m fr.length) m
theorem gL l fr rd m n:eF l fr rd m (n+1)=Ak l fr rd (eF l fr rd m n) n:=by
 unfold eF;rw[List.range_succ,List.foldl_append];rfl
theorem gH l fr m n:fu l fr m (n+1)=eF l fr n (fu l fr m n) fr.length:=by
 unfold fu;rw[List.range_succ,List.foldl_append];rfl
theorem Xv{k m}(h:MInv k m){l}(hl:∀c∈l,Sd.Ok c){fr}(hf:∀f∈fr,∀b∈f,b.length<=4096)rd i:MInv (k+1) (Ak l fr rd m i)/\(Ak l fr rd m i).aj=m.aj:=by
 unfold Ak;split
 .rename_i f c h1 h2;split
  .rename_i b h3;have hi:=jG (hl c (List.mem_of_getElem? h2));exact⟨h.qd (hf f (List.mem_of_getElem? h1) b (List.mem_of_getElem? h3)) (by omega),rfl⟩
  .exact⟨h.more (by omega),rfl⟩
 .exact⟨h.more (by omega),rfl⟩
theorem uS{k m}(h:MInv k m){l}(hl:∀c∈l,Sd.Ok c){fr}(hf:∀f∈fr,∀b∈f,b.length<=4096)rd:∀n,MInv (k+n) (eF l fr rd m n)/\(eF l fr rd m n).aj=m.aj
 | 0=>⟨h,rfl⟩
 | n+1=>by
   obtain⟨h1,h2⟩:=uS h hl hf rd n;rw[gL];obtain⟨h3,h4⟩:=Xv h1 hl hf rd n;exact⟨h3,h4.trans h2⟩
theorem sK{k m}(h:MInv k m){l}(hl:∀c∈l,Sd.Ok c){fr}(hf:∀f∈fr,∀b∈f,b.length<=4096):∀n,MInv (k+n*fr.length) (fu l fr m n)/\(fu l fr m n).aj=m.aj
 | 0=>by rw[Nat.zero_mul];exact⟨h,rfl⟩
 | n+1=>by
   obtain⟨h1,h2⟩:=sK h hl hf n;rw[gH];obtain⟨h3,h4⟩:=uS h1 hl hf n fr.length;rw[Nat.succ_mul,<-Nat.add_assoc];exact⟨h3,h4.trans h2⟩
def lim(m:aJ):Int:=if m.Length<27 then 27 else if m.Length>251 then 251 else m.Length
def toM(m:aJ)(f:bq):Int:=min ((f.am.length:Int)+4) (m.aS+lim m)
theorem H6 m:27<=lim m/\lim m<=251:=by unfold lim;split<;>(try split)<;>omega
theorem MInv.outs{k m}(h:MInv k m){o}{s:Int}(h1:∀f∈o,f∈m.Out)(h2:o.length<=m.Out.length)(h3:o=[]->s=0)(h4:∀f r,o=f::r->0<=s/\s<4+f.am.length):MInv k {m with Out:=o,aS:=s}:=
 ⟨h.Mk,h.Qi,h.next,h.ask,h.yV,h.z8,h.nQ,h.oZ,h.yO,h.cnt,fun f hf=>h.out f (h1 f hf),h3,h4,h.asm,Nat.le_trans h2 h.jV⟩
def XJ(m:aJ)(f:bq):eY:=⟨if m.aS=0 then 2 else 1,((Fr.bytesOf f).take (toM m f).toNat).drop m.aS.toNat⟩
def kK(m:aJ)(f:bq)(r:List bq):aJ:=if toM m f=(f.am.length:Int)+4 then {m with Out:=r,aS:=0}else {m with aS:=toM m f}
def fF(a b:aQ):Bool:=(a.ID==b.ID)&&(if a.ae=20 then((b.ae==21)||(b.ae==1))else if a.ae=6 then((b.ae==1)||(((b.ae==7)&&(b.ab==a.ab))&&(b.bK==a.bK)))else if a.ae=18 then((b.ae==19)||(b.ae==1))else false)
theorem ada F a b:q4k F a b=some (fF a b):=by grind [q4k,fF]
def zs:aQ:=⟨0,0,0,0,0,0,0,0,0,⟨0,0,0,0,0⟩⟩
def pK{α:Type}(l:List α)(i:Nat):List α:=l.take i++l.drop (i+1)
theorem qR{α}(l:List α)i:(pK l i).Sublist l:=by
 unfold pK;rw[<-List.eraseIdx_eq_take_drop_succ];exact List.eraseIdx_sublist l i
def ku(c:aM):List aM->List aM
 | []=>[c]
 | d::l=>if d.ap<c.ap then d::ku c l else c::d::l
def yQ(c:aM):List aM->Nat
 | []=>0
 | d::l=>if d.ap<c.ap then yQ c l+1 else 0
theorem Ot c:∀l,yQ c l<=l.length
 | []=>lR _
 | d::l=>by
   have:=Ot c l;unfold yQ;split
   .grind
   .omega
theorem Ki c:∀l,l.take (yQ c l)++[c]++l.drop (yQ c l)=ku c l
 | []=>rfl
 | d::l=>by
   unfold yQ ku;split
   .rw[List.take_succ_cons,List.drop_succ_cons,List.cons_append,List.cons_append,Ki c l]
   .rfl
theorem nA c:∀l d,d∈ku c l↔d=c\/d∈l
 | [],d=>by simp[ku]
 | e::l,d=>by
   unfold ku;split
   .rw[List.mem_cons,nA c l d,List.mem_cons];constructor
    .grind
    .grind
   .rw[List.mem_cons]
theorem Dh c:∀l,l.Pairwise (fun a b=>a.ap<b.ap)->(∀d∈l,d.ap≠c.ap)->(ku c l).Pairwise (fun a b=>a.ap<b.ap)
 | [],_,_=>by simp[ku]
 | e::l,h,hn=>by
   rw[List.pairwise_cons]at h;unfold ku;split
   .rename_i hlt;rw[List.pairwise_cons];refine⟨fun d hd=>?_,Dh c l h.2 fun d hd=>hn d (by simp[hd])⟩;rcases(nA c l d).1 hd with rfl|hd
    .exact hlt
    .exact h.1 d hd
   .rename_i hge;have he:=hn e (by simp);rw[List.pairwise_cons];refine⟨fun d hd=>?_,by rw[List.pairwise_cons];exact h⟩;rcases List.mem_cons.1 hd with rfl|hd
    .omega
    .grind
theorem at_loop(x:bO)c(hn:x.aD.aj.length<=1000):∀l k f,x.aD.aj.drop k=l->k<=x.aD.aj.length->l.length<f->iter (fun s=>Wn FF x c s) f (k:Int)=some ((k+yQ c l:Nat):Int)
 | [],k,f,hd,hk,hf=>by
   have hk2:k=x.aD.aj.length:=by grind
   cases f with
   | zero=>omega
   | succ f=>
     refine bF ?_;show Wn FF x c (k:Int)=_;unfold Wn q4v;rw[nG0 (df (by rw[lN];omega)),f8];rfl
 | d::l,k,f,hd,hk,hf=>by
   have hx:x.aD.aj[k]?=some d:=by
    have:=congrArg (fun z:List aM=>z[0]?) hd;simpa using this
   have hlt:=(gS.1 hx).1;have hd2:x.aD.aj.drop (k+1)=l:=by
    have:=congrArg List.tail hd;simpa using this
   cases f with
   | zero=>simp at hf
   | succ f=>
     unfold yQ;by_cases h:d.ap<c.ap
     .rw[pG0 h,bY (s':=((k+1:Nat):Int)) (by
       show Wn FF x c (k:Int)=_;unfold Wn q4v;rw[pG0 (dt (by rw[lN];omega)),aX hx,bs,pG0 (dt h),wN k (by omega)]),at_loop x c hn l (k+1) f hd2 hlt (by simp at hf;omega),show k+1+yQ c l=k+(yQ c l+1) by omega]
     .rw[nG0 h];refine bF ?_;show Wn FF x c (k:Int)=_;unfold Wn q4v;rw[pG0 (dt (by rw[lN];omega)),aX hx,bs,nG0 (df h)];rfl
theorem VX x c(hn:x.aD.aj.length<=1000)(he:x.ar.length<=1000):q2z FF x c=some ⟨{x.aD with aj:=ku {c with bi:=-1} x.aD.aj},x.ar++[⟨2,c.ap,[],0,zu,0⟩]⟩:=by
 unfold q2z;have k:=at_loop x c hn x.aD.aj 0 FF (by simp) (by omega) (by rw[ko];omega);rw[show((0:Nat):Int)=0 from rfl,Nat.zero_add]at k;rw[k,bs];unfold q7d q4u;have hle:=Ot c x.aD.aj;have hcc:∀l,yQ c l=yQ {c with bi:=-1} l:=by
  intro l
  induction l with
  | nil=>rfl
  | cons d l ih=>unfold yQ;rw[ih]
 rw[pG0 (by refine⟨by omega,by omega,rfl,by omega⟩),bs,Int.toNat_natCast,hcc,Ki];unfold q7c q7b;rw[vR _ _ (by simp only;omega)];rfl
theorem Fv x(i:Nat)c(hc:x.aD.aj[i]?=some c)(hn:x.aD.aj.length<=1000)(he:x.ar.length<=1000):q2w FF x (i:Int)=some ⟨{x.aD with aj:=pK x.aD.aj i},x.ar++[⟨4,c.ap,[],0,zu,0⟩]⟩:=by
 have hlt:=(gS.1 hc).1;unfold q2w q4m;rw[aX hc,bs,wN i (by omega),pG0 (by omega),bs,vR _ _ (by simp only;omega)];rfl
theorem MInv.drop{k m}(h:MInv k m)i:MInv k {m with aB:=pK m.aB i}:=by
 have hs:=qR m.aB i;have hm:∀s∈pK m.aB i,s∈m.aB:=fun s hq=>hs.subset hq;refine⟨h.Mk,h.Qi,h.next,fun s hq=>h.ask s (hm s hq),?_,?_,h.nQ,h.oZ,fun c hc s hq=>h.yO c hc s (hm s hq),?_,h.out,h.pG,h.sent,h.asm,h.jV⟩
 .exact List.Pairwise.sublist ((hs.filter _).map _) h.yV
 .exact Nat.le_trans (hs.filter _).length_le h.z8
 .refine Nat.le_trans (tT fun v hv=>?_) h.cnt;rw[eH]at hv |-;rcases hv with hv|⟨s,hq,hr⟩
  .exact .inl hv
  .grind
theorem MInv.shut{k m}(h:MInv k m)i:MInv k {m with aj:=pK m.aj i}:=by
 have hs:=qR m.aj i;have hm:∀s∈pK m.aj i,s∈m.aj:=fun s hq=>hs.subset hq;refine⟨h.Mk,h.Qi,h.next,h.ask,h.yV,h.z8,List.Pairwise.sublist hs h.nQ,fun c hc=>h.oZ c (hm c hc),fun c hc=>h.yO c (hm c hc),?_,h.out,h.pG,h.sent,h.asm,h.jV⟩;refine Nat.le_trans (tT fun v hv=>?_) h.cnt;rw[eH]at hv |-;rcases hv with⟨c,hc,hr⟩|hv
 .grind
 .exact .inr hv
theorem MInv.add{k m}(h:MInv k m){c}(hc:Sd.Ok c)(h1:∀d∈m.aj,d.ap≠c.ap)(h2:∀s∈m.aB,s.ae=20->s.ab≠c.ap)(h3:gK {m with aj:=ku c m.aj}<=16):MInv k {m with aj:=ku c m.aj}:=by
 refine⟨h.Mk,h.Qi,h.next,h.ask,h.yV,h.z8,Dh c _ h.nQ h1,fun d hd=>?_,fun d hd=>?_,h3,h.out,h.pG,h.sent,h.asm,h.jV⟩
 .rcases(nA c _ d).1 hd with rfl|hd
  .exact hc
  .exact h.oZ d hd
 .rcases(nA c _ d).1 hd with rfl|hd
  .exact h2
  .exact h.yO d hd
theorem Nb m c v:gB {m with aj:=ku c m.aj} v=true↔gB m v=true\/v=c.ap:=by grind [eH,nA]
theorem RS{k m}(h:MInv k m){i r}(hr:m.aB[i]?=some r)(hk:r.ae=20):∀s∈pK m.aB i,(s.ae=20\/s.ae=6)->s.ab≠r.ab:=by
 have hlt:=(gS.1 hr).1;have he:m.aB=m.aB.take i++r::m.aB.drop (i+1):=by
  have h1:m.aB.drop i=r::m.aB.drop (i+1):=by
   rw[List.drop_eq_getElem_cons hlt];rw[gE hlt]at hr;injection hr with hr;rw[hr]
  rw[<-h1,List.take_append_drop]
 have hn:=h.yV;rw[he,List.filter_append,List.map_append,List.filter_cons,pG0 (by simp[hk]),mC,List.nodup_append,List.nodup_cons]at hn;obtain⟨_,⟨n1,_⟩,n2⟩:=hn;intro s hs hsk e;have hp:(s.ae==20||s.ae==6)=true:=by simpa using hsk
 unfold pK at hs;rcases List.mem_append.1 hs with hs|hs
 .exact n2 s.ab (List.mem_map.2 ⟨s,List.mem_filter.2 ⟨hs,hp⟩,rfl⟩) r.ab (by simp) e
 .grind
namespace Po
def pE(k:Int):Nat:=if k=20 then 10 else if k=21 then 4 else if k=6\/k=18 then 2 else 0
def frX(f:bq):Nat:=if f.aY=4\/f.aY=6 then 0 else if f.aY=5 then pE (f.am.headD 0)else 2
def Lm(f:bq):Nat:=f.am.length+30+27*frX f
def WX(s:List Int):Nat:=5*(s.length+2)+84
def DT(c:aM):Nat:=(c.Out.map WX).sum-5*c.aS.toNat
def Wu(m:aJ)(c:aM):Nat:=if bE m c.ap=true then 0 else 108
def l8(m:aJ)(c:aM):Nat:=DT c+Wu m c
def wK(m:aJ):Nat:=(m.Out.map Lm).sum
def gP(m:aJ):Nat:=(m.aj.map (l8 m)).sum+wK m
theorem BL{α:Type}(f g:α->Nat):∀(l:List α),(∀x∈l,f x<=g x)->(l.map f).sum<=(l.map g).sum
 | [],_=>lR _
 | x::l,h=>by
   have:=BL f g l fun y hy=>h y (by simp[hy]);have:=h x (by simp);simp only[mC,List.sum_cons];omega
theorem Jk{α:Type}f g(d:Nat):∀(l:List α),(∀x∈l,f x<=g x)->(∃x∈l,f x+d<=g x)->(l.map f).sum+d<=(l.map g).sum
 | [],_,⟨_,h,_⟩=>by cases h
 | x::l,h,⟨y,hy,hd⟩=>by
   simp only[mC,List.sum_cons];rcases List.mem_cons.1 hy with rfl|hy
   .have:=BL f g l fun z hz=>h z (by simp[hz]);omega
   .have:=Jk f g d l (fun z hz=>h z (by simp[hz])) ⟨y,hy,hd⟩;have:=h x (by simp);omega
theorem LZ m mO b:gP (qd m mO b)=gP m+Lm ⟨mO,b⟩:=by
 have h1:∀c,l8 (qd m mO b) c=l8 m c:=fun c=>rfl;unfold gP wK;rw[show(qd m mO b).aj=m.aj from rfl,show(qd m mO b).Out=m.Out++[⟨mO,b⟩]from rfl,List.map_append,List.sum_append,show l8 (qd m mO b)=l8 m from funext h1];simp only[mC,List.map_nil,List.sum_cons,List.sum_nil];omega
theorem Yq s(hk:0<=s.ae/\s.ae<256):Lm ⟨5,Sg.iq s⟩<=44+27*pE s.ae:=by
 have h:=Az s;have h0:(Sg.iq s).headD 0=s.ae:=by
  unfold Sg.iq;show lg s.ae=s.ae;exact Gx hk.1 hk.2
 unfold Lm frX;simp only[h0];rw[nG0 (by decide),pG0 trivial];omega
theorem oo m s(hk:0<=s.ae/\s.ae<256):gP (jC m s)<=gP m+44+27*pE s.ae:=by grind [Yq,jC,LZ]
theorem Cr m:gP (kH m)=gP m:=rfl
theorem tF m s l:bE {m with aB:=m.aB++[s]} l=(bE m l||((s.ae==6)&&(s.ab==l))):=by grind [bE]
theorem PO m s:gP {m with aB:=m.aB++[s]}<=gP m:=by
 unfold gP;have:(m.aj.map (l8 {m with aB:=m.aB++[s]})).sum<=(m.aj.map (l8 m)).sum:=BL _ _ _ fun c _=>by grind [l8,Wu,tF,bE]
 exact Nat.add_le_add_right this _
theorem L6 m s(hk:s.ae=6){c}(hc:c∈m.aj)(hs:s.ab=c.ap)(hn:bE m c.ap=false):gP {m with aB:=m.aB++[s]}+108<=gP m:=by
 unfold gP;have:(m.aj.map (l8 {m with aB:=m.aB++[s]})).sum+108<=(m.aj.map (l8 m)).sum:=Jk _ _ _ _ (fun c _=>by
  unfold l8 Wu;rw[tF];cases h:bE m c.ap with
  | true=>simp
  | false=>cases h2:((s.ae==6)&&(s.ab==c.ap))<;>simp) ⟨c,hc,by
    unfold l8 Wu;rw[tF,hn,hk,hs];simp⟩
 have e:wK {m with aB:=m.aB++[s]}=wK m:=rfl;show(m.aj.map (l8 {m with aB:=m.aB++[s]})).sum+wK {m with aB:=m.aB++[s]}+108<=_;rw[e];omega
theorem Nt m s(hk:0<=s.ae/\s.ae<256):gP (tL m s)<=gP m+44+27*pE s.ae:=by
 have h1:=PO (jC (kH m) (fG s (oU m))) (fG s (oU m));have h2:=oo (kH m) (fG s (oU m)) hk;rw[Cr]at h2;exact Nat.le_trans h1 h2
theorem Ho m{c}(hc:c∈m.aj):gP (nX m c)<=gP m:=by
 unfold nX;by_cases h:bE m c.ap=true
 .rw[pG0 h];omega
 .rw[nG0 h];have hs:=oo (kH m) (fG ⟨6,0,0,c.ap,c.al,0,0,0,0,⟨0,0,0,0,0⟩⟩ (oU m)) (by simp only[fG];omega);have h6:=L6 (jC (kH m) (fG ⟨6,0,0,c.ap,c.al,0,0,0,0,⟨0,0,0,0,0⟩⟩ (oU m))) (fG ⟨6,0,0,c.ap,c.al,0,0,0,0,⟨0,0,0,0,0⟩⟩ (oU m)) rfl (c:=c) hc rfl (show bE m c.ap=false by simpa using h);rw[Cr]at hs;have e6:pE 6=2:=by decide
  simp only[fG,e6]at hs h6;unfold tL fG;exact Nat.le_of_add_le_add_right (Nat.le_trans h6 (by omega):_+108<=gP m+108)
theorem WK{α:Type}(f:α->Nat){l:List α}{i x y}(h:l[i]?=some x):((l.set i y).map f).sum+f x=(l.map f).sum+f y:=by
 induction l generalizing i with
 | nil=>simp at h
 | cons a l ih=>
   cases i with
   | zero=>
     simp at h;subst h;simp only[List.set_cons_zero,mC,List.sum_cons];omega
   | succ i=>
     have:=ih (by simpa using h);simp only[List.set_cons_succ,mC,List.sum_cons];omega
theorem Al m{i c c'}(hc:m.aj[i]?=some c)(hl:c'.ap=c.ap):gP (gI m i c')+DT c=gP m+DT c':=by
 have e:∀d,l8 (gI m i c') d=l8 m d:=fun d=>rfl;have h:=WK (l8 m) (y:=c') hc;have e2:l8 m c'+DT c=l8 m c+DT c':=by grind [l8,Wu]
 unfold gP;rw[show l8 (gI m i c')=l8 m from funext e,show wK (gI m i c')=wK m from rfl,show(gI m i c').aj=m.aj.set i c' from rfl];omega
theorem aa2{α}(f:α->Nat){l i x}(h:l[i]?=some x):((pK l i).map f).sum+f x=(l.map f).sum:=by
 induction l generalizing i with
 | nil=>simp at h
 | cons a l ih=>
   cases i with
   | zero=>
     simp at h;subst h;simp[pK];omega
   | succ i=>
     have:=ih (i:=i) (by simpa using h);unfold pK at this |-;simp only[List.take_succ_cons,List.drop_succ_cons,List.cons_append,mC,List.sum_cons];omega
theorem JM m{i c}(hc:m.aj[i]?=some c):gP {m with aj:=pK m.aj i}+l8 m c=gP m:=by
 have h:=aa2 (l8 m) hc;have e:l8 {m with aj:=pK m.aj i}=l8 m:=rfl;unfold gP;rw[e,show wK {m with aj:=pK m.aj i}=wK m from rfl];show((pK m.aj i).map (l8 m)).sum+_+_=_;omega
theorem Ni(f:aM->Nat)c:∀l,((ku c l).map f).sum=(l.map f).sum+f c
 | []=>by simp[ku]
 | d::l=>by
   unfold ku;split
   .have:=Ni f c l;simp only[mC,List.sum_cons];omega
   .grind
theorem Nu m c(ho:c.Out=[]):gP {m with aj:=ku c m.aj}<=gP m+108:=by
 have h:=Ni (l8 m) c m.aj;have e:l8 {m with aj:=ku c m.aj}=l8 m:=rfl;unfold gP;rw[e,show wK {m with aj:=ku c m.aj}=wK m from rfl];show((ku c m.aj).map (l8 m)).sum+_<=_;have:l8 m c<=108:=by grind [l8,DT,Wu]
 omega
end Po
def HZ(m:aJ)(n:Int):Option (Nat×aM):=match m.aj.findIdx? (fun c=>c.ap==n)with
 | none=>none
 | some i=>match m.aj[i]? with
   | none=>none
   | some c=>some (i,c)
def Hg(m:aJ)(n:Int):Option (Nat×aM):=match m.aj.findIdx? (fun c=>c.al==n)with
 | none=>none
 | some i=>match m.aj[i]? with
   | none=>none
   | some c=>some (i,c)
theorem dD m n:(HZ m n=none/\D9 m n = -1/\∀c∈m.aj,c.ap≠n)\/∃i c,HZ m n=some (i,c)/\D9 m n=(i:Int)/\m.aj[i]?=some c/\c.ap=n:=by grind [yH,HZ,D9,fidx]
theorem iY m n:(Hg m n=none/\JI m n = -1/\∀c∈m.aj,c.al≠n)\/∃i c,Hg m n=some (i,c)/\JI m n=(i:Int)/\m.aj[i]?=some c/\c.al=n:=by grind [PG,Hg,JI,fidx]
def jw(m:aJ)(psm nV mps cr:Int):aJ×Int×Int:=
 if psm=0 then(m,0,1)else if (je nV&&(je mps&&countB cr))=false then(m,0,5)else if 16<=gK m\/64<=m.Out.length then(m,0,8)else(tL m ⟨20,0,psm,ji m,0,nV,mps,cr,0,zu⟩,ji m,0)
def xk(m:aJ)(n:Int):aJ×Int:=match HZ m n with
 | none=>(m,6)
 | some (_,c)=>if bE m n=true then(m,9)else if 64<=m.Out.length then(m,8)else(nX m c,0)
def LX(c:aM)(b:List Int):aM×Int:=
 if c.ba=true then(c,9)else if (b.length:Int)>c.gu then(c,4)else if 64<=c.Out.length then(c,8)else({c with Out:=c.Out++[b]},0)
def jf(m:aJ)(n:Int)(b:List Int):aJ×Int:=match HZ m n with
 | none=>(m,6)
 | some (i,c)=>if bE m n=true then(m,9)else if (LX c b).2=0 then(gI m i (LX c b).1,0)else(m,(LX c b).2)
def wY(m:aJ)(n:Int)(b:List Int):aJ×Int:=
 if n≠4/\n≠6 then(m,5)else if 4096<b.length then(m,4)else if 64<=m.Out.length then(m,8)else(qd m n b,0)
def pQ(m:aJ)(u:jP):aJ×Int:=
 if m.jm≠1 then(m,9)else if Sg.og u≠0 then(m,Sg.og u)else if (m.aB.any fun s=>s.ae==18)=true then(m,20)else if 64<=m.Out.length then(m,8)else(tL m ⟨18,0,0,0,0,0,0,0,0,u⟩,0)
def l5(m:aJ)(id r:Int):aJ×Int:=
 if m.jm≠0 then(m,9)else if ¬ ((1<=id/\id<=255)/\(r=0\/r=1))then(m,5)else if 64<=m.Out.length then(m,8)else(jC m ⟨19,id,0,0,0,0,0,0,r,zu⟩,0)
theorem uM(l:List bq):(len l>=64)↔64<=l.length:=by rw[lN];omega
theorem vv{k m}(h:MInv k m)(hk:k<=900000000)psm nV mps cr(hp:0<=psm/\psm<=65535):q1b FF m psm nV mps cr=some (jw m psm nV mps cr)/\MInv (k+1) (jw m psm nV mps cr).1:=by
 have hal:=h.rH;have hcl:=h.rE;have hol:=h.jV;unfold q1b jw;rw[wL FF m ff (h.sz (by omega)),bs,Oa ⟨m,[]⟩ (by simp only;omega) (by simp only;omega) h.ids,bs];by_cases h0:psm=0
 .rw[pG0 (by simpa using h0),pG0 h0];exact⟨rfl,h.more (by omega)⟩
 rw[nG0 (c:=(psm==0)=true) (by simpa using h0),nG0 h0];rw[show qx FF nV=some (je nV)from rfl,show qx FF mps=some (je mps)from rfl,show qn FF cr 0 65535=some (countB cr)from rfl,wV];cases hb1:je nV with
 | false=>exact⟨rfl,h.more (by omega)⟩
 | true=>
 cases hb2:je mps with
 | false=>exact⟨rfl,h.more (by omega)⟩
 | true=>
 cases hb3:countB cr with
 | false=>exact⟨rfl,h.more (by omega)⟩
 | true=>
 rw[nG0 (c:=(true&&(true&&true))=false) (by simp)];by_cases hu:gK m<16
 .by_cases ho:len m.Out>=64
  .rw[pG0 (c:=16<=gK m\/64<=m.Out.length) (.inr ((uM _).1 ho))];refine⟨?_,h.more (by omega)⟩;simp only[bs,Bool.not_true,Bool.false_eq_true,if_false,dt hu,dt ho,if_true]
  .obtain⟨v,_,f2,f3,f4,f5⟩:=j6 (m:=m) (by omega);have hs:gX (fG ⟨20,0,psm,v,0,nV,mps,cr,0,zu⟩ (oU m)):=GQ (kM h) ⟨show 1<=psm by omega,hp.2⟩ ⟨f4,f5⟩ hb1 hb2 hb3;rw[nG0 (c:=16<=gK m\/64<=m.Out.length) (by rw[<-uM];omega),f2];refine⟨?_,h.tL hs (.inl ⟨rfl,f3,hu⟩)⟩;simp only[bs,Bool.not_true,Bool.false_eq_true,if_false,dt hu,decide_eq_false ho,pG0 hu,f2];have:=M0 ⟨m,[]⟩ ⟨20,0,psm,v,0,nV,mps,cr,0,zu⟩ hs h.next (by simp only;omega) (by simp only;omega);rw[show(⟨20,0,psm,v,0,nV,mps,cr,0,⟨0,0,0,0,0⟩⟩:aQ)=⟨20,0,psm,v,0,nV,mps,cr,0,zu⟩from rfl,this];rfl
 .rw[pG0 (c:=16<=gK m\/64<=m.Out.length) (.inl (by omega))];refine⟨?_,h.more (by omega)⟩;simp only[bs,Bool.not_true,Bool.false_eq_true,if_false,decide_eq_false hu,Bool.not_false,if_true]
theorem oW{k m}(h:MInv k m)(hk:k<=900000000)n:q32 FF m n=some (xk m n)/\MInv (k+1) (xk m n).1:=by
 have hal:=h.rH;have hcl:=h.rE;have hol:=h.jV;unfold q32 xk;rw[wL FF m ff (h.sz (by omega)),bs,ND ⟨m,[]⟩ n (by simp only;omega) (by simp only;omega),bs,wV];rcases dD m n with⟨hq,hl,_⟩|⟨i,c,hq,hl,hc,hn⟩
 .rw[hl,hq];exact⟨rfl,h.more (by omega)⟩
 .rw[hl,hq,nG0 (show ¬ ((i:Int)<0) by omega),bs];simp only
  by_cases hb:bE m n=true
  .rw[pG0 hb,pG0 hb];exact⟨rfl,h.more (by omega)⟩
  .rw[nG0 hb,nG0 hb,f8];by_cases ho:len m.Out>=64
   .rw[pG0 (dt ho),pG0 ((uM _).1 ho)];exact⟨rfl,h.more (by omega)⟩
   .obtain⟨hs,hI⟩:=h.nX (List.mem_of_getElem? hc);rw[nG0 (df ho),nG0 (by rw[<-uM];exact ho),UH ⟨m,[]⟩ i c hc hs h.next (by simp only;omega) (by simp only;omega)];exact⟨rfl,hI⟩
theorem Xu c b(hs:Sd.Sm c)(hb:b.length<=16384)(h:Sd.Ok c):q53 FF c b=some (LX c b)/\Sd.Ok (LX c b).1/\(LX c b).1.ap=c.ap/\(LX c b).1.al=c.al:=by
 unfold q53 q7p LX;rw[Sd.lJ FF c (by decide) hs];simp only[bs];by_cases h1:c.ba=true
 .grind
 rw[nG0 h1,nG0 h1];have hlb:=lN b;have hlo:=lN c.Out;by_cases h2:(b.length:Int)>c.gu
 .grind
 rw[nG0 (c:=decide (len b>c.gu)=true) (df (by omega)),nG0 h2];by_cases h3:64<=c.Out.length
 .grind
 rw[nG0 (c:=decide (len c.Out>=64)=true) (df (by omega)),nG0 h3];have ho:=h.few;rw[Au FF [b] (by simp;decide) (by simp) (by simp;omega)];simp only[bs,List.flatten_singleton];rw[dX (by simp;omega) (by omega)];simp only[bs];refine⟨trivial,?_,trivial,trivial⟩;obtain⟨a1,a2,b1,b2,b3,b4,b5,b6,b7,a4,a5,c1,c2,c3⟩:=h;refine⟨a1,a2,b1,b2,b3,b4,b5,b6,b7,by simp only[lA,List.length_singleton];omega,fun s hs=>?_,?_,c2,c3⟩
 .grind
 .unfold Sd.lastOf at c1 |-;simp only
  cases hc:c.Out with
  | nil=>rw[hc]at c1;simp only[List.nil_append]at c1 |-;omega
  | cons s r=>rw[hc]at c1;exact c1
theorem BR{k m}(h:MInv k m)(hk:k<=900000000)n b(hb:b.length<=16384):q1i FF m n b=some (jf m n b)/\MInv (k+1) (jf m n b).1:=by
 have hal:=h.rH;have hcl:=h.rE;have hol:=h.jV;unfold q1i jf;rw[wL FF m ff (h.sz (by omega)),bs,ND ⟨m,[]⟩ n (by simp only;omega) (by simp only;omega),bs];rcases dD m n with⟨hq,hl,_⟩|⟨i,c,hq,hl,hc,hn⟩
 .rw[hl,hq];exact⟨rfl,h.more (by omega)⟩
 .rw[hl,hq,nG0 (show ¬ ((i:Int)<0) by omega)];simp only
  by_cases hb':bE m n=true
  .rw[pG0 hb',pG0 hb'];exact⟨rfl,h.more (by omega)⟩
  .rw[nG0 hb',nG0 hb',f8];have hok:=h.oZ c (List.mem_of_getElem? hc);obtain⟨q1,q3,q4,q5⟩:=Xu c b hok.sm hb hok;simp only[aX hc,bs,q1];by_cases he:(LX c b).2=0
   .rw[nG0 (by simpa using he),pG0 he,tV hc];exact⟨rfl,(h.put hc q3 q4).more (by omega)⟩
   .rw[pG0 (by simpa using he),nG0 he];exact⟨rfl,h.more (by omega)⟩
theorem KC{k m}(h:MInv k m)(hk:k<=900000000)n b:q1h FF m n b=some (wY m n b)/\MInv (k+1) (wY m n b).1:=by
 have hol:=h.jV;unfold q1h wY;rw[wL FF m ff (h.sz (by omega)),bs,wV];by_cases h1:n≠4/\n≠6
 .rw[pG0 (by simpa using h1),pG0 h1];exact⟨rfl,h.more (by omega)⟩
 rw[nG0 (by simpa using h1),nG0 h1];by_cases h2:len b>4096
 .rw[pG0 (dt h2),pG0 (by rw[lN]at h2;omega)];exact⟨rfl,h.more (by omega)⟩
 rw[nG0 (df h2),nG0 (by rw[lN]at h2;omega),bs];by_cases h3:len m.Out>=64
 .rw[pG0 (dt h3),pG0 ((uM _).1 h3)];exact⟨rfl,h.more (by omega)⟩
 have hbl:b.length<=4096:=by rw[lN]at h2;omega
 rw[nG0 (df h3),nG0 (by rw[<-uM];exact h3),Cn ⟨m,[]⟩ n b (by omega) (by simp only;omega)];exact⟨rfl,h.qd hbl (by omega)⟩
theorem yE{k m}(h:MInv k m)(hk:k<=900000000)u:q34 FF m u=some (pQ m u)/\MInv (k+1) (pQ m u).1:=by
 have hal:=h.rH;have hol:=h.jV;unfold q34 pQ;rw[wL FF m ff (h.sz (by omega)),bs,wV,ac1 _ (by simp only;omega),Sg.RG FF u (by have:=FFk;omega)];by_cases h1:m.jm≠1
 .rw[pG0 (by simpa using h1),pG0 h1];exact⟨rfl,h.more (by omega)⟩
 rw[nG0 (by simpa using h1),nG0 h1];simp only[bs];by_cases h2:Sg.og u=0
 .rw[nG0 (c:=(Sg.og u != 0)=true) (by simpa using h2),nG0 (c:=Sg.og u≠0) (not_not_intro h2)];by_cases h3:(m.aB.any fun s=>s.ae==18)=true
  .rw[pG0 h3,pG0 h3];exact⟨rfl,h.more (by omega)⟩
  rw[nG0 h3,nG0 h3];by_cases h4:len m.Out>=64
  .rw[pG0 (dt h4),pG0 ((uM _).1 h4)];exact⟨rfl,h.more (by omega)⟩
  have hs:gX (fG ⟨18,0,0,0,0,0,0,0,0,u⟩ (oU m)):=GL (kM h) h2;rw[nG0 (df h4),nG0 (by rw[<-uM];exact h4),M0 ⟨m,[]⟩ _ hs h.next (by simp only;omega) (by simp only;omega)];exact⟨rfl,h.tL hs (.inr (.inr ⟨rfl,(Bool.not_eq_true _).mp h3⟩))⟩
 .rw[pG0 (c:=(Sg.og u != 0)=true) (by simpa using h2),pG0 h2];exact⟨rfl,h.more (by omega)⟩
theorem Ch{k m}(h:MInv k m)(hk:k<=900000000)id r:q1j FF m id r=some (l5 m id r)/\MInv (k+1) (l5 m id r).1:=by
 have hol:=h.jV;unfold q1j l5;rw[wL FF m ff (h.sz (by omega)),bs,wV,show qn FF id 1 255=some (decide (id>=1)&&decide (id<=255))from rfl];by_cases h1:m.jm≠0
 .rw[pG0 (by simpa using h1),pG0 h1];exact⟨rfl,h.more (by omega)⟩
 rw[nG0 (by simpa using h1),nG0 h1,bs];by_cases h2:(1<=id/\id<=255)/\(r=0\/r=1)
 .rw[i4,nG0 (c:=¬ ((1<=id/\id<=255)/\(r=0\/r=1))) (not_not_intro h2),bs];by_cases h4:len m.Out>=64
  .rw[pG0 (dt h4),pG0 ((uM _).1 h4)];exact⟨rfl,h.more (by omega)⟩
  have hs:gX ⟨19,id,0,0,0,0,0,0,r,zu⟩:=qO h2.1 19 (.inl ⟨rfl,h2.2⟩);have e1:=uo ⟨m,[]⟩ _ hs (by simp only;omega);unfold zu at e1;rw[nG0 (df h4),nG0 (by rw[<-uM];exact h4),e1];exact⟨rfl,h.say _⟩
 .rw[pG0 (by simp;omega),pG0 h2];exact⟨rfl,h.more (by omega)⟩
def zA(k c r i:Int):iw:=⟨k,c,[],r,zu,i⟩
theorem MS{s}(h:gX s)(hk:s.ae=20\/(s.ae=21/\s.Result=0)):(64<=s.ab/\s.ab<=127)/\(23<=s.dh/\s.dh<=4096)/\(23<=s.cZ/\s.cZ<=4096)/\(0<=s.aA/\s.aA<=65535)/\(s.ae=20->s.bT≠0):=by
 have h0:=h.1;unfold Sg.yR at h0;split at h0
 .cases h0
 split at h0
 .cases h0
 split at h0
 .cases h0
 split at h0
 .cases h0
 rcases hk with hk|⟨hk,hr⟩
 .rw[nG0 (by rw[hk];simp)]at h0;split at h0
  .cases h0
  rename_i h5;split at h0
  .cases h0
  rename_i h6;unfold Sg.iV at h6;rw[hk]at h5 h6;simp[Sg.aI,Sg.mM,Sg.vV]at h5 h6;refine⟨by omega,by omega,by omega,by omega,fun _=>h5⟩
 .rw[nG0 (by rw[hr];simp)]at h0;split at h0
  .cases h0
  split at h0
  .cases h0
  rename_i h6;unfold Sg.iV at h6;rw[hk]at h6;simp[Sg.aI,Sg.mM,Sg.vV]at h6;refine⟨by omega,by omega,by omega,by omega,fun e=>by omega⟩
theorem FR{s}(h:gX s):1<=s.ID/\s.ID<=255:=by
 obtain⟨_,h1,h2,_⟩:=Sg.iB h.1;exact⟨h1,h2⟩
theorem mH{id r}(hi:1<=id/\id<=255)(hr:r=2\/r=4\/r=5\/r=9):gX ⟨21,id,0,0,0,0,0,0,r,zu⟩:=by
 refine⟨?_,by simp only;omega,by simp only;omega⟩;unfold Sg.yR;rw[nG0 (by simp[Sg.aI]),i4,nG0 (by simp[Sg.fH,Sg.aI,Sg.xU,zu]),nG0 (by simp[Sg.lq,Sg.aI];omega),pG0 (by simp;omega),f8]
theorem GR{id src nV mps cr}(hi:1<=id/\id<=255)(hs:64<=src/\src<=127)(h1:je nV=true)(h2:je mps=true)(h3:countB cr=true):gX ⟨21,id,0,src,0,nV,mps,cr,0,zu⟩:=by
 refine⟨?_,by simp only;omega,by simp only;omega⟩;unfold je at h1 h2;unfold countB at h3;simp only[Bool.and_eq_true,decide_eq_true_eq]at h1 h2 h3;unfold Sg.yR;rw[nG0 (by simp[Sg.aI]),i4,nG0 (by simp[Sg.fH,Sg.aI,Sg.xU,zu]),nG0 (by simp[Sg.lq,Sg.aI]),f8,nG0 (by simp[Sg.aI]),nG0 (by simp[Sg.iV,Sg.aI,Sg.mO,Sg.Zl];omega),nG0 (by simp[Sg.aI])]
theorem GN{id src cr}(hi:1<=id/\id<=255)(hs:64<=src/\src<=127)(h3:1<=cr/\cr<=65535):gX ⟨22,id,0,src,0,0,0,cr,0,zu⟩:=by
 refine⟨?_,by simp only;omega,by simp only;omega⟩;unfold Sg.yR;rw[nG0 (by simp[Sg.aI]),i4,nG0 (by simp[Sg.fH,Sg.aI,Sg.xU,zu]),nG0 (by simp[Sg.lq,Sg.aI]),f8,nG0 (by simp[Sg.aI]),nG0 (by simp[Sg.iV,Sg.aI,Sg.mO];omega),nG0 (by simp[Sg.aI])]
theorem Yu l s(hl:l.length<=1000000):q4s FF l s=some (fidx (fun o=>o.bT==s.bT) l,s):=by
 unfold q4s fidx;rw[lI (p:=fun o:fI=>o.bT==s.bT) (l:=l) (c:=s) (g:=fun i=>(i,s)) (fun i x hx=>by
  have hlt:=(gS.1 hx).1;show q3p FF l _ _=_;unfold q3p q5m;rw[i5,aX hx];simp only[bs,wN i (by omega)];split<;>rfl) (by
  show q3p FF l _ _=_;unfold q3p;rw[h9]) (by rw[ko];omega)]
 cases l.findIdx? (fun o=>o.bT==s.bT)<;>rfl
theorem adb{k m}(h:MInv k m){l c:aM}{v}(hc:Sd.Ok c)(hv:c.ap=v)(hf:gB m v=false)(hu:gK m<16):MInv k {m with aj:=ku c m.aj}:=by
 have hn:∀w,gB m w=true->w≠v:=fun w hw e=>by rw[e,hf]at hw;cases hw
 refine h.add hc (fun d hd e=>?_) (fun s hs hk e=>?_) ?_
 .exact hn d.ap ((eH m _).2 (.inl ⟨d,hd,rfl⟩)) (by rw[e,hv])
 .grind [eH]
 .have:=ES (m:=m) (m':={m with aj:=ku c m.aj}) v fun w hw=>by
   rcases(Nb m c w).1 hw with h|h
   .exact .inl h
   .grind
  omega
theorem eO{α:Type}{l:List α}{i:Nat}{x}(h:l[i]?=some x):x∈l:=List.mem_of_getElem? h
theorem RB{x}(h:Byte x):aL x=x:=by
 have:=h.1;have:=h.2;exact bW (by omega) (by omega)
end V
end Go.Proofs.YtbgfhaahhdnogaaGreat
