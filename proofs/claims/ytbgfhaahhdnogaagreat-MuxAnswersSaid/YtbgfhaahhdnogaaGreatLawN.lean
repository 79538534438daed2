/- Numbers and bytes: what the functions of octets, and Put and -/
import Derived.Test.YtbgfhaahhdnogaaGreatLoop
import Derived.Test.YtbgfhaahhdnogaaGreatFn
import Derived.KernelRfl
namespace Go.Proofs.YtbgfhaahhdnogaaGreat
namespace V
universe u
theorem nG0 {c:Prop}{h:Decidable c}(hc:¬c){α:Sort u}{t e:α}:ite c t e=e:=if_neg hc
theorem pG0 {c:Prop}{h:Decidable c}(hc:c){α:Sort u}{t e:α}:ite c t e=t:=if_pos hc
theorem lC0 {α:Type}{a:α}{l:List α}:(a::l).length=l.length+1:=List.length_cons
theorem mC {α β:Type}{f:α->β}{a:α}{l:List α}:(a::l).map f=f a::l.map f:=List.map_cons
theorem lR (n:Nat):n<=n:=Nat.le_refl n
theorem mS {α:Type}{a b:α}:a∈[b]↔a=b:=List.mem_singleton
theorem lT0 {α:Type}{i:Nat}{l:List α}:(l.take i).length=min i l.length:=List.length_take
theorem bs{α β:Type}(a:α)(f:α->Option β):(some a).bind f=f a:=rfl
theorem gE{α:Type}{l:List α}{i:Nat}(h:i<l.length):l[i]?=some l[i]:=List.getElem?_eq_getElem h
theorem lA{α:Type}{l m:List α}:(l++m).length=l.length+m.length:=List.length_append
theorem gM{α:Type}{l:List α}{i:Nat}(h:i<l.length):l[i]∈l:=List.getElem_mem h
theorem gS{α:Type}{l:List α}{i:Nat}{a:α}:l[i]?=some a↔∃h:i<l.length,l[i]=a:=List.getElem?_eq_some_iff
def FF:Nat:=1125899906842624
def Byte(x:Int):Prop:=0<=x/\x<256
def yO:Nat->Int->List Int
 | 0,_=>[]
 | k+1,n=>n%256::yO k (n/256)
def num:List Int->Int
 | []=>0
 | b::r=>b+256*num r
theorem lL:∀k n,(yO k n).length=k
 | 0,_=>rfl
 | k+1,n=>by simp[yO,lL k]
theorem vS:∀k n,∀x∈yO k n,Byte x
 | 0,_,x,h=>by cases h
 | k+1,n,x,h=>by
   rcases List.mem_cons.1 h with rfl | h
   ·exact⟨Int.emod_nonneg _ (by decide),Int.emod_lt_of_pos _ (by decide)⟩
   ·exact vS k _ x h
theorem rR(k:Nat):(256:Int)^(k+1)=256*256^k:=by rw[Int.pow_succ,Int.mul_comm]
theorem KR(k:Nat):(0:Int)<256^k:=Int.pow_pos (by decide)
theorem Ji:∀(k:Nat) (n:Int),yO (k+1) n=yO k n++[n/256^k%256]
 | 0,n=>by simp[yO]
 | k+1,n=>by
   have:=Ji k (n/256);rw[yO,this,yO,List.cons_append,rR,Int.ediv_ediv_of_nonneg (by decide:(0:Int)<=256)]
theorem num_nonneg:∀{l:List Int},(∀x∈l,Byte x)->0<=num l
 | [],_=>by simp[num]
 | b::r,h=>by
   have h1:=(h b (by simp)).1;have h2:=num_nonneg (l:=r) fun x hx=>h x (by simp[hx]);simp only[num];omega
theorem KZ:∀{l:List Int},(∀x∈l,Byte x)->num l<256^l.length
 | [],_=>by simp[num]
 | b::r,h=>by
   have h1:=(h b (by simp)).2;have h2:=KZ (l:=r) fun x hx=>h x (by simp[hx]);simp only[num,lC0,rR];omega
theorem Gp:∀{l:List Int},(∀x∈l,Byte x)->yO l.length (num l)=l
 | [],_=>rfl
 | b::r,h=>by
   obtain⟨h0,h1⟩:=h b (by simp);have hr:=Gp (l:=r) fun x hx=>h x (by simp[hx]);simp only[lC0,yO,num];rw[show(b+256*num r)%256=b from by omega,show(b+256*num r)/256=num r from by omega,hr]
theorem BK:∀(l m:List Int),num (l++m)=num l+256^l.length*num m
 | [],m=>by simp[num]
 | b::r,m=>by
   simp only[List.cons_append,num,lC0,rR,BK r m,Int.mul_add,Int.mul_assoc];omega
theorem Ng{l m:List Int}(h:l.length+m.length<=140737488355328):app 1 l m=some (l++m):=by
 rw[dV (by omega) (by omega)]
theorem oN:∀{l:List Int},(∀x∈l,Byte x)->str l=l
 | [],_=>rfl
 | b::r,h=>by
   obtain⟨h0,h1⟩:=h b (by simp);have hr:=oN (l:=r) fun x hx=>h x (by simp[hx]);unfold str at hr ⊢;rw[mC,hr];congr 1;have:(UInt8.ofNat b.toNat).toNat=b.toNat:=by
    simp;omega
   rw[this];omega
theorem join_step(F:Nat)(ps:List (List Int))(l:List Int)(i:Nat)(x:List Int)(hx:ps[i]? = some x)(hl:l.length+x.length<=140737488355328)(hi:ps.length<=9000000000000000000):qp F ps l i=some (.next (l++x,((i+1:Nat):Int))):=by
 have hlt:i<ps.length:=(gS.1 hx).1;unfold qp;have hd:decide ((i:Int)<len ps)=true:=by simp[len];omega
 rw[pG0 hd,dN,hx];simp only[bs];rw[Ng hl];simp only[bs];rw[wN i (by omega)]
theorem Cb(F:Nat)(a b:List Int)(hF:2<F)(h:a.length+b.length<=140737488355328):qa F [a,b]=some (a++b):=by
 unfold qa;obtain⟨F',rfl⟩:∃F',F=F'+1+1+1:=⟨F-3,by omega⟩;have h1:qp (F'+1+1+1) [a,b] [] 0=some (.next (a,1)):=by simpa using join_step (F'+1+1+1) [a,b] [] 0 a rfl (by simp;omega) (by simp)
 have h2:qp (F'+1+1+1) [a,b] a 1=some (.next (a++b,2)):=by simpa using join_step (F'+1+1+1) [a,b] a 1 b rfl (by omega) (by simp)
 rw[bU h1,bU h2,aX (o:=a++b) (by unfold qp;rw[nG0 (by simp[len])])];rfl
theorem join_one(F:Nat)(a:List Int)(hF:1<F)(h:a.length<=140737488355328):qa F [a]=some a:=by
 unfold qa;obtain⟨F',rfl⟩:∃F',F=F'+1+1:=⟨F-2,by omega⟩;have h1:qp (F'+1+1) [a] [] 0=some (.next (a,1)):=by simpa using join_step (F'+1+1) [a] [] 0 a rfl (by simp;omega) (by simp)
 rw[bU h1,aX (o:=a) (by unfold qp;rw[nG0 (by simp[len])])];rfl
theorem DN{v:Int}(i:Nat)(hi:i<=8)(_h0:0<=v):Jm .u64 v (aK (8*i))=some (v/256^i):=by
 rw[bP (by omega) (by omega)];unfold Jm;rw[nG0 (by omega)];have h1:min (8*(i:Int)).toNat IntKind.u64.bits=8*i:=by
  show min (8*(i:Int)).toNat 64=8*i;omega
 rw[h1,show(2:Int)^(8*i)=256^i from by rw[Int.pow_mul];rfl,Int.fdiv_eq_ediv_of_nonneg _ (Int.le_of_lt (KR i))]
structure z8(f:tZ):Prop where
 s0:1<=f.bl
 s1:f.bl<=8
 v0:0<=f.Value
 v1:f.Value<18446744073709551616
 v2:f.Value<256^f.bl.toNat
theorem VR(F:Nat)(x:tZ)(hx:z8 x)(l:List Int)(hl:l.length<=1000000)(hF:9<F):iter (fun s=>VG F x s.1 s.2) F (l,0)=some (l++yO x.bl.toNat x.Value):=by
 obtain⟨s0,s1,v0,v1,v2⟩:=hx;have:=dZ (body:=fun s:List Int×Int=>VG F x s.1 s.2) (fun i=>(l++yO i x.Value,(i:Int))) x.bl.toNat (l++yO x.bl.toNat x.Value) (by
  intro i hi;show VG F x (l++yO i x.Value) i=_;unfold VG;rw[pG0 (by simp;omega),DN i (by omega) v0];simp only[bs];rw[Ng (by simp[lL];omega)];simp only[bs];rw[wN i (by omega),Ji,List.append_assoc];rfl) (by
  show VG F x _ _=_;unfold VG;rw[nG0 (by simp;omega)]) F 0 (by omega) (by omega)
 simpa [yO]using this
def kY(fs:List tZ):List Int:=(fs.map fun f=>yO f.bl.toNat f.Value).flatten
theorem BA:∀{fs:List tZ},(∀f∈fs,z8 f)->(kY fs).length<=8*fs.length
 | [],_=>by simp[kY]
 | f::fs,h=>by
   have h1:=h f (by simp);have h2:=BA (fs:=fs) fun g hg=>h g (by simp[hg]);obtain⟨s0,s1,_⟩:=h1;simp only[kY,mC,List.flatten_cons,lA,lL,lC0]at h2 ⊢;omega
theorem Mv(F:Nat)(fs:List tZ)(h:∀f∈fs,z8 f)(hn:fs.length<=1000)(hF:fs.length+9<F):q2o F fs=some (kY fs,0):=by
 unfold q2o;have:=dZ (body:=fun s:List Int×Int=>Yh F fs s.1 s.2) (fun i=>(kY (fs.take i),(i:Int))) fs.length (.inl (kY fs)) (by
  intro i hi;have hx:fs[i]? = some fs[i]:=gE hi;have hf:=h fs[i] (gM hi);have hlen:=BA (fs:=fs.take i) (fun f hf=>h f (List.mem_of_mem_take hf));have htl:(fs.take i).length<=i:=by simp;omega
  show Yh F fs (kY (fs.take i)) i=_;unfold Yh;rw[pG0 (by simp[len];omega),dN,hx];simp only[bs,q2m];obtain⟨s0,s1,v0,v1,v2⟩:=hf;have hsz:(!(decide (fs[i].bl≥1)&&decide (fs[i].bl<=8)))=false:=by simp;omega
  rw[hsz];simp only[Bool.false_eq_true,if_false];have hz:((if decide (fs[i].bl<8)=true then(Jm IntKind.u64 fs[i].Value (aK (8*fs[i].bl))).bind fun om=>some (om != 0)else some false))=some false:=by
   by_cases h8:fs[i].bl<8
   ·rw[pG0 (by simpa using h8)];have:=DN (v:=fs[i].Value) fs[i].bl.toNat (by omega) v0;rw[show((fs[i].bl.toNat:Nat):Int)=fs[i].bl from by omega]at this;rw[this,Int.ediv_eq_zero_of_lt v0 v2];rfl
   ·rw[nG0 (by simpa using h8)]
  rw[hz];simp only[bs,Bool.false_eq_true,if_false];rw[VR F fs[i] ⟨s0,s1,v0,v1,v2⟩ _ (by omega) (by omega)];simp only[bs,q6r];rw[wN i (by omega),List.take_add_one,hx];simp only[kY,List.map_append,List.flatten_append,Option.toList_some,mC,List.map_nil,List.flatten_cons,List.flatten_nil,List.append_nil]) (by
  show Yh F fs _ _=_;unfold Yh;rw[nG0 (by simp[len]),List.take_length]) F 0 (by omega) (by omega)
 simp only[List.take_zero]at this;have h0:(kY [],((0:Nat):Int))=(([]:List Int),(0:Int)):=rfl;rw[h0]at this;rw[this];rfl
end V
namespace V
theorem BN(a b i:Nat)(ha:a<2^i):a ||| (b*2^i)=a+b*2^i:=by
 have h:=Nat.shiftLeft_add_eq_or_of_lt ha b;rw[Nat.shiftLeft_eq]at h;rw[Nat.or_comm,← h,Nat.add_comm]
theorem Ra(i:Nat):(256:Int)^i=((2^(8*i):Nat):Int):=by
 rw[Nat.pow_mul,show(2:Nat)^8=256 from by decide];exact(congrArg (fun z:Int=>z^i) (rfl:(256:Int)=((256:Nat):Int))).trans (Int.natCast_pow 256 i).symm
theorem Wo(a b:Int)(i:Nat)(hi:i<8)(h0:0<=a)(h1:a<256^i)(h2:Byte b):uQ .u64 a (b*256^i)=a+b*256^i:=by
 obtain⟨b0,b1⟩:=h2;obtain⟨a,rfl⟩:=Int.eq_ofNat_of_zero_le h0;obtain⟨b,rfl⟩:=Int.eq_ofNat_of_zero_le b0;have hp:=Ra i;rw[hp]at h1 ⊢;have ha:a<2^(8*i):=by exact_mod_cast h1
 have hb:b<256:=by omega
 have hle:(2:Nat)^(8*i)<=2^56:=Nat.pow_le_pow_right (by decide) (by omega);have hbl:b*2^(8*i)<2^64:=by
  have:b*2^(8*i)<=255*2^56:=Nat.mul_le_mul (by omega) hle;omega
 have hs:a+b*2^(8*i)<2^64:=by
  have:(b+1)*2^(8*i)<=256*2^56:=Nat.mul_le_mul (by omega) hle;rw[Nat.add_mul]at this;omega
 unfold uQ;have e:((b:Int)*((2^(8*i):Nat):Int))=((b*2^(8*i):Nat):Int):=by rw[Int.natCast_mul]
 have e2:(BitVec.ofInt IntKind.u64.bits (a:Int) ||| BitVec.ofInt IntKind.u64.bits ((b:Int)*((2^(8*i):Nat):Int))).toNat=a+b*2^(8*i):=by
  rw[e,BitVec.toNat_or];show(BitVec.ofInt 64 (a:Int)).toNat ||| (BitVec.ofInt 64 ((b*2^(8*i):Nat):Int)).toNat=_
  rw[BitVec.toNat_ofInt,BitVec.toNat_ofInt];rw[show(((a:Nat):Int)%((2^64:Nat):Int)).toNat=a from by rw[← Int.natCast_emod,Int.toNat_natCast,Nat.mod_eq_of_lt (by omega)]];rw[show(((b*2^(8*i):Nat):Int)%((2^64:Nat):Int)).toNat=b*2^(8*i)from by rw[← Int.natCast_emod,Int.toNat_natCast,Nat.mod_eq_of_lt hbl]];exact BN a b (8*i) ha
 rw[e2,wrap_u64];unfold wu64;rw[Int.natCast_add,Int.natCast_mul];rw[show((a:Int)+(b:Int)*((2^(8*i):Nat):Int))=((a+b*2^(8*i):Nat):Int)from by rw[Int.natCast_add,Int.natCast_mul]];omega
theorem I6(i:Nat):(2:Int)^(8*i)=((2^(8*i):Nat):Int):=(congrArg (fun z:Int=>z^(8*i)) (rfl:(2:Int)=((2:Nat):Int))).trans (Int.natCast_pow 2 (8*i)).symm
theorem ZB(x i:Nat)(h1:(x:Int)<256)(hi:i<8):x*2^(8*i)<=255*2^56:=by
 have hle:(2:Nat)^(8*i)<=2^56:=Nat.pow_le_pow_right (by decide) (by omega);exact Nat.mul_le_mul (by omega) hle
theorem UR(q:Nat)(hb:q<=255*2^56):wu64 (q:Int)=q:=by
 rw[uU (by omega) (by omega)]
theorem Qz(x i:Nat)(hi:i<8):Jo .u64 (x:Int) (8*i)=some (IntKind.u64.wrap ((x:Int)*2^(8*i))):=by
 unfold Jo;rw[nG0 (by omega)];have e1:min (8*(i:Int)).toNat IntKind.u64.bits=8*i:=by
  show min (8*(i:Int)).toNat 64=8*i;omega
 rw[e1]
theorem NU{x:Int}(hx:Byte x)(i:Nat)(hi:i<8):Jo .u64 (wu64 x) (aK (8*i))=some (x*256^i):=by
 obtain⟨h0,h1⟩:=hx;obtain⟨x,rfl⟩:=Int.eq_ofNat_of_zero_le h0;have e1:aK (8*(i:Int))=8*i:=bP (by omega) (by omega);have e2:wu64 (x:Int)=x:=uU (by omega) (by omega);have e3:=UR _ (ZB x i h1 hi);rw[Int.natCast_mul,← I6]at e3;have e4:(256:Int)^i=2^(8*i):=(Ra i).trans (I6 i).symm;rw[e1,e2,Qz x i hi,wrap_u64,e3,e4]
theorem Zo(F:Nat)(b:List Int)(k i:Nat)(a p:Int)(x:Int)(hc:decide ((i:Int)<(k:Int))=true)(hx:b[i]? = some x)(hw:aK ((i:Int)+1)=((i+1:Nat):Int))(hs:Jo .u64 (wu64 x) (aK (8*(i:Int)))=some p)(ho:uQ .u64 a p=a+p):UF F b k a i=some (.next (a+p,((i+1:Nat):Int))):=by
 unfold UF;rw[pG0 hc,dN,hx,bs,hs,bs,ho,hw]
theorem Rp(b:List Int)(i:Nat)(x:Int)(hx:b[i]? = some x)(hlen:(b.take i).length=i):num (b.take (i+1))=num (b.take i)+x*256^i:=by
 rw[List.take_add_one,hx,BK,hlen,Int.mul_comm x];simp only[Option.toList_some,num,Int.mul_zero,Int.add_zero]
theorem U1{b:List Int}{i:Nat}(ht:∀x∈b.take i,Byte x)(hlen:(b.take i).length=i):num (b.take i)<256^i:=by
 have h:=KZ ht;rw[hlen]at h;exact h
theorem acK(F:Nat)(b:List Int)(k i:Nat)(hi8:i<8)(hin:i<9223372036854775807)(hc:decide ((i:Int)<(k:Int))=true)(x:Int)(hx:b[i]? = some x)(hbx:Byte x)(ht:∀x∈b.take i,Byte x)(hlen:(b.take i).length=i):UF F b k (num (b.take i)) i=some (.next (num (b.take (i+1)),((i+1:Nat):Int))):=
 (Zo F b k i (num (b.take i)) (x*256^i) x hc hx (wN i hin) (NU hbx i hi8) (Wo _ _ i hi8 (num_nonneg ht) (U1 ht hlen) hbx)).trans (by rw[Rp b i x hx hlen])
theorem U2(F:Nat)(b:List Int)(k:Nat)(hk:k<=8)(hl:k<=b.length)(hb:∀x∈b,Byte x)(hF:9<F):iter (fun s=>UF F b k s.1 s.2) F (0,0)=some (num (b.take k)):=by
 have:=dZ (body:=fun s:Int×Int=>UF F b k s.1 s.2) (fun i=>(num (b.take i),(i:Int))) k (num (b.take k)) (fun i hi=>by
  have hil:i<b.length:=by omega
  exact acK F b k i (by omega) (by omega) (decide_eq_true (by omega)) b[i] (gE hil) (hb _ (gM hil)) (fun x hx=>hb x (List.mem_of_mem_take hx)) (by simp;omega)) (by
  show UF F b k _ _=_;unfold UF;rw[nG0 (by simp)]) F 0 (by omega) (by omega)
 exact this
def fV:List Int->List Nat->List Int
 | _,[]=>[]
 | b,k::ks=>num (b.take k)::fV (b.drop k) ks
def jd(ks:List Nat):List Int:=ks.map fun(k:Nat)=>(k:Int)
def fM:List Nat->Nat
 | []=>0
 | k::ks=>k+fM ks
theorem lJ:∀a b,fM (a++b)=fM a+fM b
 | [],b=>by simp[fM]
 | x::a,b=>by simp[fM,lJ a b];omega
theorem Dw:∀(ks:List Nat) (b:List Int),(fV b ks).length=ks.length
 | [],_=>rfl
 | k::ks,b=>by simp[fV,Dw ks]
theorem uV:∀(a c:List Nat) (b:List Int),fV b (a++c)=fV b a++fV (b.drop (fM a)) c
 | [],c,b=>by simp[fV,fM]
 | k::a,c,b=>by simp[fV,fM,uV a c,List.drop_drop]
theorem U5{ks:List Nat}(h:∀k∈ks,1<=k/\k<=8):fM ks<=8*ks.length:=by
 induction ks with
 | nil=>simp[fM]
 | cons k ks ih=>
   have h1:=h k (by simp);have h2:=ih fun k hk=>h k (by simp[hk]);simp[fM];omega
theorem Ig(F:Nat)(ks:List Nat)(h:∀k∈ks,1<=k/\k<=8)(hn:ks.length<=1000)(hF:ks.length<F):iter (fun s=>VB F (jd ks) s.1 s.2) F (0,0)=some (.inl (fM ks:Int)):=by
 have:=dZ (body:=fun s:Int×Int=>VB F (jd ks) s.1 s.2) (fun i=>((fM (ks.take i):Int),(i:Int))) ks.length (.inl (fM ks:Int)) (by
  intro i hi;have hx:ks[i]? = some ks[i]:=gE hi;have hk:=h ks[i] (gM hi);have hs:=U5 (ks:=ks.take i) fun k hk=>h k (List.mem_of_mem_take hk);have hlen:(ks.take i).length<=i:=by simp;omega
  show VB F (jd ks) (fM (ks.take i):Int) i=_;unfold VB;rw[pG0 (by simp[len,jd];omega),dN];simp only[jd,List.getElem?_map,hx,Option.map_some,bs,q2m];rw[nG0 (by simp;omega),wN i (by omega),bP (by omega) (by omega),List.take_add_one,hx,lJ];simp[fM]) (by
  show VB F (jd ks) _ _=_;unfold VB;rw[nG0 (by simp[len,jd]),List.take_length]) F 0 (by omega) (by omega)
 simpa [fM]using this
theorem UZ(F:Nat)(b:List Int)(ks:List Nat)(h:∀k∈ks,1<=k/\k<=8)(hn:ks.length<=1000)(hF:ks.length+9<F)(hb:∀x∈b,Byte x)(hbl:b.length<=140737488355328)(hl:fM ks<=b.length):q2u F b (jd ks)=some (fV b ks,b.drop (fM ks),0):=by
 unfold q2u;rw[Ig F ks h hn (by omega)];simp only[bs,q64];rw[nG0 (by simp[len];omega)];have:=dZ (body:=fun s:List Int×List Int×Int=>Yd F (jd ks) s.1 s.2.1 s.2.2) (fun i=>(b.drop (fM (ks.take i)),fV b (ks.take i),(i:Int))) ks.length (b.drop (fM ks),fV b ks) (by
  intro i hi;have hx:ks[i]? = some ks[i]:=gE hi;have hk:=h ks[i] (gM hi);have hsum:fM (ks.take i)+ks[i]<=fM ks:=by
   have e1:fM (ks.take (i+1))=fM (ks.take i)+ks[i]:=by rw[List.take_add_one,hx,lJ];simp[fM]
   have e2:fM ks=fM (ks.take (i+1))+fM (ks.drop (i+1)):=by rw[← lJ,List.take_append_drop]
   omega
  have hlen:(ks.take i).length<=i:=by simp;omega
  show Yd F (jd ks) (b.drop (fM (ks.take i))) (fV b (ks.take i)) i=_;unfold Yd;rw[pG0 (by simp[len,jd];omega),dN];simp only[jd,List.getElem?_map,hx,Option.map_some,bs];rw[U2 F (b.drop (fM (ks.take i))) ks[i] hk.2 (by simp;omega) (fun x hx=>hb x (List.mem_of_mem_drop hx)) (by omega)];simp only[bs,q75];rw[dV (by rw[Dw];simp;omega) (by decide)];simp only[bs];have hs:=lu (b.drop (fM (ks.take i))) ks[i] (b.drop (fM (ks.take i))).length (by simp;omega) (by omega);rw[lN,hs];simp only[bs,q74,List.take_length,List.drop_drop];rw[wN i (by omega),List.take_add_one,hx,lJ,uV];simp[fM,fV]) (by
  show Yd F (jd ks) _ _ _=_;unfold Yd;rw[nG0 (by simp[len,jd]),List.take_length]) F 0 (by omega) (by omega)
 simp only[List.take_zero,fM,List.drop_zero,fV]at this;have h0:((0:Nat):Int)=0:=rfl;rw[h0]at this;rw[this];simp only[bs,q73];rw[join_one F _ (by omega) (by simp;omega)];rfl
theorem KD(F:Nat)(b:List Int)(ks:List Nat)(h:∀k∈ks,1<=k/\k<=8)(hn:ks.length<=1000)(hF:ks.length+9<F)(hl:b.length<fM ks):q2u F b (jd ks)=some ([],[],3):=by
 unfold q2u;rw[Ig F ks h hn (by omega)];simp only[bs,q64];rw[pG0 (by simp[len];omega)]
end V
namespace V
theorem dt{p:Prop} [Decidable p](h:p):decide p=true:=decide_eq_true h
theorem df{p:Prop} [Decidable p](h:¬ p):¬ decide p=true:=fun e=>h (of_decide_eq_true e)
def fidx{α:Type}(p:α->Bool)(l:List α):Int:=match l.findIdx? p with
 | some i=>(i:Int)
 | none=>-1
theorem Cg{α γ β:Type}{body:γ×Int->Option (Out (γ×Int) (Sum γ β))}{l:List α}{p:α->Bool}{c:γ}{g:Int->β}(h:∀(i:Nat) x,l[i]? = some x->body (c,(i:Int))=some (if p x=true then .done (.inr (g (i:Int)))else .next (c,((i+1:Nat):Int))))(he:body (c,(l.length:Int))=some (.done (.inl c))) :
 ∀(m:List α) (F k:Nat),l.drop k=m->k<=l.length->m.length<F->iter body F (c,(k:Int))=some (match m.findIdx? p with
  | some i=>.inr (g ((k+i:Nat):Int))
  | none=>.inl c)
 | [],F,k,hd,hk,hF=>by
   have hk2:k=l.length:=by
    have:=congrArg List.length hd;rw[List.length_drop,List.length_nil]at this;omega
   subst hk2;cases F with
   | zero=>simp at hF
   | succ F=>rw[aX he];rfl
 | x::m,F,k,hd,hk,hF=>by
   have hx:l[k]? = some x:=by
    have:=congrArg (fun z:List α=>z[0]?) hd;simpa using this
   have hlt:=(gS.1 hx).1;have hd2:l.drop (k+1)=m:=by
    have:=congrArg List.tail hd;simpa using this
   have hb:=h k x hx;cases F with
   | zero=>simp at hF
   | succ F=>
     rw[List.findIdx?_cons];by_cases hp:p x=true
     ·rw[pG0 hp]at hb;rw[aX hb,pG0 hp];simp
     ·rw[nG0 hp]at hb;rw[bU hb,Cg h he m F (k+1) hd2 hlt (by simp at hF;omega),nG0 hp];cases m.findIdx? p with
      | none=>rfl
      | some i=>
        simp only[Option.map_some];rw[show k+1+i=k+(i+1) by omega]
theorem kZ{α γ β:Type}{body:γ×Int->Option (Out (γ×Int) (Sum γ β))}{l:List α}{p:α->Bool}{c:γ}{g:Int->β}(h:∀(i:Nat) x,l[i]? = some x->body (c,(i:Int))=some (if p x=true then .done (.inr (g (i:Int)))else .next (c,((i+1:Nat):Int))))(he:body (c,(l.length:Int))=some (.done (.inl c)))
 {F:Nat} (hF:l.length<F):iter body F (c,0)=some (match l.findIdx? p with
  | some i=>.inr (g (i:Int))
  | none=>.inl c):=by
 have:=Cg h he l F 0 (by simp) (by omega) hF;rw[show((0:Nat):Int)=0 from rfl]at this;rw[this];cases l.findIdx? p with
 | none=>rfl
 | some i=>simp
theorem uF{α:Type}(p:α->Bool)(l:List α):(fidx p l = -1/\l.any p=false)∨∃(i:Nat) (x:α),fidx p l=(i:Int)/\l[i]? = some x/\p x=true/\∀j,j<i->∀y,l[j]? = some y->p y=false:=by
 unfold fidx;cases h:l.findIdx? p with
 | none=>
   refine .inl ⟨rfl,?_⟩;rw[List.findIdx?_eq_none_iff]at h;rw[List.any_eq_false];intro x hx;simp[h x hx]
 | some i=>
   rw[List.findIdx?_eq_some_iff_getElem]at h;obtain⟨h1,h2,h3⟩:=h;refine .inr ⟨i,l[i],rfl,gE h1,h2,fun j hj y hy=>?_⟩;have h4:=h3 j hj;rw[gE (by omega)]at hy;injection hy with hy;rw[← hy];simpa using h4
theorem rX{α:Type}(p:α->Bool)(l:List α):decide (fidx p l≥0)=l.any p:=by
 rcases uF p l with⟨h1,h2⟩ | ⟨i,x,h1,h2,h3,_⟩
 ·rw[h1,h2];rfl
 ·rw[h1,List.any_eq_true.2 ⟨x,List.mem_of_getElem? h2,h3⟩];exact dt (by omega)
theorem upd_same{α:Type}{l:List α}{i:Nat}{x:α}(h:l[i]? = some x):upd l (i:Int) x=some l:=by
 have hlt:=(gS.1 h).1;unfold upd;rw[pG0 (by omega),Int.toNat_natCast];congr 1;apply List.ext_getElem?;intro j;rw[List.getElem?_set];split
 ·rename_i e;subst e;exact h.symm
 ·rfl
theorem bg{α:Type}{l:List α}{i:Nat}{x:α}(h:l[i]? = some x):idx l (i:Int)=some x:=by rw[dN,h]
theorem jc{α:Type}{l:List α}{i:Nat}{x:α}(h:l[i]? = some x):l.take i++[x]=l.take (i+1):=by
 rw[List.take_add_one,h];rfl
theorem zP(F:Nat)(l:List (List Int))(hF:l.length<F)(hl:l.length<1000000)(hs:l.flatten.length<=140737488355328):qa F l=some l.flatten:=by
 unfold qa q6f;have:=dZ (body:=fun s:List Int×Int=>qp F l s.1 s.2) (fun i=>((l.take i).flatten,(i:Int))) l.length l.flatten (fun i hi=>by
  have hx:l[i]? = some l[i]:=gE hi;have hfl:(l.take i).flatten++l[i]=(l.take (i+1)).flatten:=by rw[← jc hx,List.flatten_append,List.flatten_singleton]
  have hle:(l.take (i+1)).flatten.length<=l.flatten.length:=by
   have h1:=congrArg (fun z=>(List.flatten z).length) (List.take_append_drop (i+1) l);simp only[List.flatten_append,lA]at h1;omega
  show qp F l _ _=_;unfold qp;rw[pG0 (by simp[len];omega)];simp only[dN,hx,bs];rw[dV (by rw[← lA,hfl];omega) (by omega)];simp only[bs,hfl,wN i (by omega)]) (by
  show qp F l _ _=_;unfold qp;rw[nG0 (by simp[len])];simp) F 0 (by omega) (by omega)
 rw[List.take_zero,List.flatten_nil,show((0:Nat):Int)=0 from rfl]at this;rw[this];rfl
theorem wK{α:Type}{k:Nat}{l:List α}(hk:0<k)(h:l.length*k<=140737488355328):app k ([]:List α) l=some l:=by
 rw[dV (by simpa using h) hk,List.nil_append]
structure Sz(m:aI):Prop where
 K4:m.ak.length<=1000000
 ask:m.aB.length<=1000000
 chs:m.aj.length<=1000000
 out:m.Out.length<=1000000000
 cout:∀c∈m.aj,c.Out.length<=1000/\c.In.length<=1000000
 crow:∀c∈m.aj,∀s∈c.Out,s.length<=1000000
 pay:∀f∈m.Out,f.al.length<=1000000
 buf:m.ay.ao.length<=1000000000
theorem Nc(F:Nat)(l:List fA)(h:l.length<=1000000):q25 F l=some l:=by
 unfold q25;rw[wK (by omega) (by omega)];rfl
theorem WZ(F:Nat)(l:List aQ)(h:l.length<=1000000):q41 F l=some l:=by
 unfold q41;rw[wK (by omega) (by omega)];rfl
theorem Xa(F:Nat)(l:List aT)(h:l.length<=1000000):q42 F l=some l:=by
 unfold q42;rw[wK (by omega) (by omega)];rfl
theorem W9(F:Nat)(l:List bJ)(h:l.length<=1000000000):q43 F l=some l:=by
 unfold q43;rw[wK (by omega) (by omega)];rfl
theorem Tk(F:Nat)(l:List (List Int))(hF:1000000000<F)(hl:l.length<=1000)(hs:∀s∈l,s.length<=1000000):q3i F l=some l:=by
 unfold q3i q6g;have:=dZ (body:=fun s:List (List Int)×Int=>Yq F l s.1 s.2) (fun i=>(l.take i,(i:Int))) l.length l (fun i hi=>by
  have hx:l[i]? = some l[i]:=gE hi;have hm:=hs _ (gM hi);show Yq F l _ _=_;unfold Yq;rw[pG0 (by simp[len];omega)];simp only[dN,hx,bs];rw[join_one F _ (by omega) (by omega),bs,dV (by simp;omega) (by omega)];simp only[bs,jc hx,wN i (by omega)]) (by
  show Yq F l _ _=_;unfold Yq;rw[nG0 (by simp[len])];simp) F 0 (by omega) (by omega)
 rw[List.take_zero,show((0:Nat):Int)=0 from rfl]at this;rw[this];rfl
theorem vJ(F:Nat)(m:aI)(hF:10000000000<F)(h:Sz m):qg F m=some ⟨m,[]⟩:=by
 unfold qg;rw[Nc F _ h.K4,WZ F _ h.ask,Xa F _ h.chs,W9 F _ h.out];simp only[bs];unfold q6j;have h1:=dZ (body:=fun s:List aT×Int=>Yo F m s.1 s.2) (fun i=>(m.aj,(i:Int))) m.aj.length m.aj (fun i hi=>by
  have hx:m.aj[i]? = some m.aj[i]:=gE hi;have hm:=h.cout _ (gM hi);have hlen:=h.chs;show Yo F m _ _=_;unfold Yo;rw[pG0 (by simp[len];omega)];simp only[bg hx,bs];rw[Tk F _ (by omega) hm.1 (h.crow _ (gM hi)),bs,join_one F _ (by omega) (by omega),bs];rw[upd_same hx];simp only[bs,bg hx];rw[upd_same hx];simp only[bs,wN i (by omega)]) (by
  show Yo F m _ _=_;unfold Yo;rw[nG0 (by simp[len])]) F 0 (by omega) (by have:=h.chs;omega)
 rw[show((0:Nat):Int)=0 from rfl]at h1;rw[h1,bs];unfold q6i;have h2:=dZ (body:=fun s:List bJ×Int=>Yp F m s.1 s.2) (fun i=>(m.Out,(i:Int))) m.Out.length m.Out (fun i hi=>by
  have hx:m.Out[i]? = some m.Out[i]:=gE hi;have hm:=h.pay _ (gM hi);have hlen:=h.out;show Yp F m _ _=_;unfold Yp;rw[pG0 (by simp[len];omega)];simp only[bg hx,bs];rw[join_one F _ (by omega) (by omega),bs];rw[upd_same hx];simp only[bs,wN i (by omega)]) (by
  show Yp F m _ _=_;unfold Yp;rw[nG0 (by simp[len])]) F 0 (by omega) (by have:=h.out;omega)
 rw[show((0:Nat):Int)=0 from rfl]at h2;rw[h2,bs];unfold q6h;have:=h.buf;rw[join_one F _ (by omega) (by omega)];rfl
end V
namespace V
def zm:aI:=⟨0,0,[],[],[],0,⟨false,[]⟩,[],0,0⟩
def je(n:Int):Bool:=decide (n≥23)&&decide (n<=4096)
def countB(n:Int):Bool:=decide (n≥0)&&decide (n<=65535)
def uz(l:List fA)(x:fA):Int:=
 if x.bQ=0 then 1
 else if l.any (fun o=>o.bQ==x.bQ)=true then 7
 else if (je x.bZ&&je x.cu&&countB x.aA&&(decide (x.bc≥0)&&decide (x.bc<=2)))=false then 5
 else 0
def BU(l:List fA):Nat->Nat->Int
 | _,0=>0
 | k,n+1=>match l[k]? with
   | none=>0
   | some x=>if uz (l.take k) x=0 then BU l (k+1) n else uz (l.take k) x
def gV(role:Int)(l:List fA):aI×Int:=
 if role≠0/\role≠1 then(zm,1)
 else if l.length>64 then(zm,4)
 else if BU l 0 l.length=0 then(⟨role,0,l,[],[],1,⟨false,[]⟩,[],0,27⟩,0)else(zm,BU l 0 l.length)
theorem abd(F:Nat)(l:List fA)(c:fA)(hF:l.length<F)(hl:l.length<1000000000):q3z F l c=some (fidx (fun o=>o.bQ==c.bQ) l,c):=by
 unfold q3z fidx;have k:=kZ (body:=fun s:fA×Int=>q24 F l s.1 s.2) (l:=l) (p:=fun o=>o.bQ==c.bQ) (c:=c) (g:=fun i=>(i,c)) (fun i x hx=>by
  have hlt:=(gS.1 hx).1;show q24 F l _ _=_;unfold q24 q5b;rw[pG0 (by simp[len];omega),bg hx];simp only[bs,wN i (by omega)];split <;> rfl) (by
  show q24 F l _ _=_;unfold q24;rw[nG0 (by simp[len])]) hF
 rw[k];cases l.findIdx? (fun o=>o.bQ==c.bQ) <;> rfl
theorem abq(F:Nat)(l:List fA)(c:fA)(hF:l.length<F)(hl:l.length<1000000000):q40 F l c=some (l.any (fun o=>o.bQ==c.bQ),c):=by
 unfold q40;rw[abd F l c hF hl,bs,rX]
theorem OJ(F:Nat)(l:List fA)(i:Nat)(x:fA)(hx:l[i]? = some x)(hF:l.length<F)(hl:l.length<1000000000):Yr F l (i:Int)=some (if uz (l.take i) x=0 then .next ((i+1:Nat):Int)else .done (.inr (zm,uz (l.take i) x))):=by
 have hlt:=(gS.1 hx).1;have hsub:sub l 0 (i:Int)=some (l.take i):=by
  have:=lu l 0 i (by omega) (by omega);rw[show((0:Nat):Int)=0 from rfl]at this;rw[this];simp
 unfold Yr qz qo;rw[pG0 (by simp[len];omega),bg hx,bs,hsub,bs,abq F _ _ (by rw[lT0];omega) (by rw[lT0];omega)];simp only[bs,wN i (by omega)];unfold uz;by_cases h1:x.bQ=0
 ·rw[pG0 (by simpa using h1),pG0 h1];rfl
 rw[nG0 (by simpa using h1),nG0 h1];by_cases h2:(l.take i).any (fun o=>o.bQ==x.bQ)=true
 ·rw[pG0 h2,pG0 h2];rfl
 rw[nG0 h2,nG0 h2];cases hb1:je x.bZ <;> cases hb2:je x.cu <;> cases hb3:countB x.aA <;> cases hb4:(decide (x.bc≥0)&&decide (x.bc<=2)) <;> (unfold je at hb1 hb2;unfold countB at hb3;simp[hb1,hb2,hb3,hb4,zm])
theorem EK{l:List fA}{k n:Nat}{x:fA}(h:l[k]? = some x):BU l k (n+1)=if uz (l.take k) x=0 then BU l (k+1) n else uz (l.take k) x:=by simp only[BU,h]
theorem BM(F:Nat)(l:List fA)(hF:l.length<F)(hl:l.length<1000000000)(body:Int->Option (Out Int (Sum Unit (aI×Int))))(hb:∀(i:Nat) x,l[i]? = some x->body (i:Int)=some (if uz (l.take i) x=0 then .next ((i+1:Nat):Int)else .done (.inr (zm,uz (l.take i) x))))(he:body (l.length:Int)=some (.done (.inl ()))) :
 ∀(n k f:Nat),k+n=l.length->n<f->iter body f (k:Int)=some (if BU l k n=0 then .inl ()else .inr (zm,BU l k n))
 | 0,k,f,hk,hf=>by
   have:k=l.length:=by omega
   subst this;cases f with
   | zero=>omega
   | succ f=>rw[aX he];rfl
 | n+1,k,f,hk,hf=>by
   have hx:l[k]? = some l[k]:=gE (by omega);have h1:=hb k _ hx;cases f with
   | zero=>omega
   | succ f=>
     rw[EK hx];by_cases h2:uz (l.take k) l[k]=0
     ·rw[pG0 h2]at h1;rw[bU h1,pG0 h2];exact BM F l hF hl body hb he n (k+1) f (by omega) (by omega)
     ·rw[nG0 h2]at h1;rw[aX h1,nG0 h2,nG0 h2]
theorem F6(F:Nat)(role:Int)(l:List fA)(hF:1000<F):q12 F role l=some (gV role l):=by
 unfold q12 gV;by_cases h1:role≠0/\role≠1
 ·rw[pG0 (by simpa using h1),pG0 h1];rfl
 rw[nG0 (by simpa using h1),nG0 h1];by_cases h2:l.length>64
 ·rw[pG0 (by simp[len];omega),pG0 h2];rfl
 rw[nG0 (by simp[len];omega),nG0 h2];have k:=BM F l (by omega) (by omega) (fun s=>Yr F l s) (fun i x hx=>OJ F l i x hx (by omega) (by omega)) (by
  show Yr F l _=_;unfold Yr;rw[nG0 (by simp[len])]) l.length 0 F (by omega) (by omega)
 rw[show((0:Nat):Int)=0 from rfl]at k;rw[k];by_cases h3:BU l 0 l.length=0
 ·rw[pG0 h3,pG0 h3];simp only[bs];unfold q6e;rw[Nc F _ (by omega)];rfl
 ·rw[nG0 h3,nG0 h3];rfl
theorem OW{body:Int->Option (Out Int (Sum Unit (aI×Int)))}{l:List fA}{p:fA->Bool}{e:aI×Int}{n F:Nat}(h:∀(i:Nat) x,i<n->l[i]? = some x->body (i:Int)=some (if p x=true then .done (.inr e)else .next ((i+1:Nat):Int)))(he:body (n:Int)=some (.done (.inl ())))(hn:n<=l.length)(hF:n<F):iter body F 0=some (if (l.take n).any p=true then .inr e else .inl ()):=by
 have hlen:(l.take n).length=n:=by rw[lT0];omega
 have:=Ch (body:=body) (l:=l.take n) (p:=p) (o:=.inr e) (e:=.inl ()) (fun i x hx=>by
  have hlt:=(gS.1 hx).1;rw[hlen]at hlt;rw[List.getElem?_take,pG0 hlt]at hx;exact h i x hlt hx) (by rw[hlen];exact he) F 0 (by omega) (by omega)
 simpa using this
theorem KO(F:Nat)(l:List fA)(i:Nat)(x:fA)(hx:l[i]? = some x)(hF:l.length<F)(hl:l.length<1000000000):X4 F l (i:Int)=some (if uz (l.take i) x=0 then .next ((i+1:Nat):Int)else .done (.inr (zm,uz (l.take i) x))):=by
 have hlt:=(gS.1 hx).1;unfold X4;rw[pG0 (by simp[len];omega),bg hx,bs];unfold uz;by_cases h1:x.bQ=0
 ·rw[pG0 (by simpa using h1),pG0 h1];rfl
 rw[nG0 (by simpa using h1),nG0 h1];have k:=OW (body:=fun s=>X5 F l (i:Int) x s) (l:=l) (p:=fun o=>o.bQ==x.bQ) (e:=(zm,7)) (n:=i) (F:=F) (fun j y hj hy=>by
  show X5 F l _ x _=_;unfold X5 q86;rw[pG0 (by simp;omega),bg hy];simp only[bs,wN j (by omega)];split <;> rfl) (by
  show X5 F l _ x _=_;unfold X5;rw[nG0 (by simp)]) (by omega) (by omega)
 rw[k];by_cases h2:(l.take i).any (fun o=>o.bQ==x.bQ)=true
 ·rw[pG0 h2,pG0 h2];rfl
 rw[nG0 h2,nG0 h2];simp only[bs];unfold q85 q84 q3w q5y;simp only[bs,wN i (by omega)];have hv:(decide (x.bc≥0)&&decide (x.bc<=2)) = !(decide (x.bc<0)||decide (x.bc>2)):=by
  by_cases h3:x.bc<0 <;> by_cases h4:x.bc>2 <;> simp[h3,h4] <;> omega
 cases hb1:je x.bZ <;> cases hb2:je x.cu <;> cases hb3:countB x.aA <;> cases hb4:decide (x.bc<0) <;> cases hb5:decide (x.bc>2) <;> (unfold je at hb1 hb2;unfold countB at hb3;rw[hv,hb4,hb5];simp[hb1,hb2,hb3,zm])
theorem Mg(F:Nat)(role:Int)(l:List fA)(hF:1000<F):q3h F role l=some (gV role l):=by
 unfold q3h gV;by_cases h1:role≠0/\role≠1
 ·rw[pG0 (by simpa using h1),pG0 h1];rfl
 rw[nG0 (by simpa using h1),nG0 h1];by_cases h2:l.length>64
 ·rw[pG0 (by simp[len];omega),pG0 h2];rfl
 rw[nG0 (by simp[len];omega),nG0 h2];have k:=BM F l (by omega) (by omega) (fun s=>X4 F l s) (fun i x hx=>KO F l i x hx (by omega) (by omega)) (by
  show X4 F l _=_;unfold X4;rw[nG0 (by simp[len])]) l.length 0 F (by omega) (by omega)
 rw[show((0:Nat):Int)=0 from rfl]at k;rw[k];by_cases h3:BU l 0 l.length=0
 ·rw[pG0 h3,pG0 h3];simp only[bs];unfold q83;rw[wK (by omega) (by omega)];rfl
 ·rw[nG0 h3,nG0 h3];rfl
def lvl(n:Int):Int:=if n<0 then 0 else if n>2 then 2 else n
theorem DV(F:Nat)(m:aI)(n:Int)(hF:10000000000<F)(h:Sz m):q3a F m n=some { m with bc:=lvl n }:=by
 unfold q3a;rw[vJ F m hF h];have:imax 0 (cZ n 2)=lvl n:=by unfold imax cZ lvl;split <;> split <;> (try split) <;> omega
 simp[this]
theorem JG:q20 FF=some true:=by kernel_rfl
end V
namespace V
namespace Sd
theorem RJ{α:Type}(c:Prop) [Decidable c](a b:α):(if c then some a else some b)=some (if c then a else b):=by split <;> rfl
def lastOf(c:aT):Int:=match c.Out with | []=>0 | s::_=>1+s.length
structure Sm(c:aT):Prop where
 out:c.Out.length<=1000
 each:∀s∈c.Out,s.length<=1000000
 inn:c.In.length<=1000000
theorem SQ{α:Type}(l m:List α)(h:l.length=m.length):ET l m=m:=by
 unfold ET;rw[h,List.take_length,← h,List.drop_length,List.append_nil]
theorem lg(F:Nat)(c:aT)(hF:2000<F)(h:Sm c):qw F c=some c:=by
 obtain⟨h1,h2,h3⟩:=h;unfold qw q6t;have:=dZ (body:=fun s:List (List Int)×Int=>Yf F c s.1 s.2) (fun i=>(c.Out.take i,(i:Int))) c.Out.length c.Out (fun i hi=>by
  have hx:c.Out[i]? = some c.Out[i]:=gE hi;have hm:=h2 _ (gM hi);show Yf F c _ _=_;unfold Yf;rw[pG0 (by simp[len];omega)];simp only[dN,hx,bs,lN];rw[BO (by omega) (by omega)];simp only[bs];rw[SQ _ _ (by simp),dV (by simp;omega) (by omega)];simp only[bs,jc hx,wN i (by omega)]) (by
  show Yf F c _ _=_;unfold Yf;rw[nG0 (by simp[len])];simp) F 0 (by omega) (by omega)
 rw[List.take_zero,show((0:Nat):Int)=0 from rfl]at this;rw[this];simp only[bs];rw[zP F [c.In] (by simp;omega) (by simp) (by simp;omega)];simp
theorem fB{x:Int}(h1 : -1000000000000000000<=x)(h2:x<=1000000000000000000):aK x=x:=bP (by omega) (by omega)
structure Ok(c:aT):Prop where
 ids:¬ (c.ap<64∨c.ap>127∨c.ax<64∨c.ax>127)
 psm:c.bQ≠0
 ru:23<=c.bZ/\c.bZ<=4096
 mps:23<=c.cu/\c.cu<=4096
 aam:23<=c.jQ/\c.jQ<=4096
 aan:23<=c.dx/\c.dx<=4096
 tx:0<=c.aO/\c.aO<=65535
 rx:0<=c.aG/\c.aG<=65535
 given:0<=c.bh/\c.bh<=65535
 few:c.Out.length<=64
 short:∀s∈c.Out,(s.length:Int)<=c.jQ
 sent:0<=c.aV/\c.aV<=lastOf c
 want : -1<=c.bi/\c.bi<=c.bZ
 inn:(c.bi = -1->c.In.length=0)/\(c.bi≥0->(c.In.length:Int)<c.bi)
def fm(s:List Int):List Int:=[(s.length:Int)%256,(s.length:Int)/256]++s
theorem II(F:Nat)(s:List Int)(hF:5<F)(hs:s.length<=4096):q4b F s=some (fm s):=by
 unfold q4b fm;have e1:Ay (len s) 8=(s.length:Int)/256:=by
  unfold Ay;rw[lN,show(2:Int)^8=256 by decide,Int.fdiv_eq_ediv_of_nonneg _ (by omega)]
 have e2:kP (len s)=(s.length:Int)%256:=rfl;have e3:kP ((s.length:Int)/256)=(s.length:Int)/256:=FB (by omega) (by omega);rw[e1,e2,e3,zP F _ (by simp;omega) (by simp) (by simp;omega)];simp
theorem mJ(s:List Int):(fm s).length=s.length+2:=by simp[fm]
def partOf(c:aT)(s:List Int):List Int:=((fm s).drop c.aV.toNat).take c.dx.toNat
def zL(c:aT)(s:List Int)(r:List (List Int)):aT:=
 if c.aV+c.dx≥s.length+2 then { c with aO:=c.aO-1,Out:=r,aV:=0 }else { c with aO:=c.aO-1,aV:=c.aV+c.dx }
theorem QD(F:Nat)(c:aT)(l:List (List Int))(s:List Int)(r:List (List Int))(hF:5<F)(hl:l.length<=1000000)(h:Ok c)(ho:c.Out=s::r)(ht:c.aO>0) :
 q4c F c l=some (zL c s r,l++[partOf c s]):=by
 have hsl:=h.short s (by rw[ho];simp);have hp:=h.aam;have hm:=h.aan;have hse:=h.sent;have htx:=h.tx;rw[show lastOf c=1+s.length by unfold lastOf;rw[ho]]at hse;unfold q4c;have hL:len (fm s)=s.length+2:=by rw[lN,mJ];omega
 have e1:imax 0 (cZ c.aV (len (fm s)))=c.aV:=by unfold imax cZ;rw[hL];split <;> split <;> omega
 have e2:aK (len (fm s)-c.aV)=s.length+2-c.aV:=by rw[hL,fB (by omega) (by omega)]
 have e3:imax 1 (cZ c.dx (s.length+2-c.aV))=min c.dx (s.length+2-c.aV):=by unfold imax cZ;split <;> split <;> omega
 have e4:cZ (min c.dx (s.length+2-c.aV)) (s.length+2-c.aV)=((min c.dx (s.length+2-c.aV)).toNat:Int):=by unfold cZ;split <;> omega
 have e5:aK (c.aV+min c.dx (s.length+2-c.aV))=c.aV+min c.dx (s.length+2-c.aV):=fB (by omega) (by omega);have e6:aK (c.aO-1)=c.aO-1:=fB (by omega) (by omega);have e7:sub (fm s) c.aV (len (fm s))=some ((fm s).drop c.aV.toNat):=by
  have:=lu (fm s) c.aV.toNat (fm s).length (by rw[mJ];omega) (by omega);rw[List.take_length,show((c.aV.toNat:Nat):Int)=c.aV by omega]at this;exact this
 have e8:ET (List.replicate (min c.dx (s.length+2-c.aV)).toNat 0) ((fm s).drop c.aV.toNat)=partOf c s:=by
  unfold ET partOf;have hd:(List.replicate (min c.dx (s.length+2-c.aV)).toNat (0:Int)).drop ((fm s).drop c.aV.toNat).length=[]:=List.drop_of_length_le (by rw[List.length_replicate,List.length_drop,mJ];omega);rw[hd,List.length_replicate,List.append_nil];by_cases hc:c.dx<=s.length+2-c.aV
  ·rw[show(min c.dx (s.length+2-c.aV)).toNat=c.dx.toNat by omega]
  ·rw[List.take_of_length_le (by rw[List.length_drop,mJ];omega),List.take_of_length_le (by rw[List.length_drop,mJ];omega)]
 rw[show idx c.Out 0=some s by rw[ho];rfl,bs,II F s hF (by omega),bs];simp only[e1,e2,e3];rw[e4,BO (by omega) (by omega),bs,e7,bs,e8,dV (by simp;omega) (by omega),bs,e5,e6,hL];unfold zL;by_cases hc:c.aV+c.dx≥s.length+2
 ·have hsub:sub c.Out 1 (len c.Out)=some r:=by
   have:=lu c.Out 1 c.Out.length (by rw[ho];simp) (by omega);rw[List.take_length,ho]at this;rw[ho];exact this
  rw[pG0 (by simp;omega),hsub,bs,pG0 hc]
 ·rw[nG0 (by simp;omega),nG0 hc,show c.aV+min c.dx (s.length+2-c.aV)=c.aV+c.dx by omega]
theorem KY{c:aT}{s:List Int}{r:List (List Int)}(h:Ok c)(hs:Sm c)(ho:c.Out=s::r)(ht:c.aO>0):Ok (zL c s r)/\Sm (zL c s r)/\(zL c s r).aO=c.aO-1:=by
 obtain⟨a1,a2,b1,b2,b3,b4,b5,b6,b7,a4,a5,c1,c2,c3⟩:=h;obtain⟨s1,s2,s3⟩:=hs;rw[show lastOf c=1+s.length by unfold lastOf;rw[ho]]at c1;rw[ho]at a4 a5 s1 s2;simp only[lC0]at a4 s1;unfold zL;by_cases hc:c.aV+c.dx≥s.length+2
 ·rw[pG0 hc];refine⟨⟨a1,a2,b1,b2,b3,b4,by simp only;omega,b6,b7,by simp only;omega,fun x hx=>a5 x (List.mem_cons_of_mem _ hx),?_,c2,c3⟩,⟨by simp only;omega,fun x hx=>s2 x (List.mem_cons_of_mem _ hx),s3⟩,rfl⟩;unfold lastOf;simp only
  cases r with
  | nil=>simp
  | cons y r=>simp only;omega
 ·rw[nG0 hc];refine⟨⟨a1,a2,b1,b2,b3,b4,by simp only;omega,b6,b7,by simp only[ho,lC0];omega,by simp only[ho];exact a5,?_,c2,c3⟩,⟨by simp only[ho,lC0];omega,by simp only[ho];exact s2,s3⟩,rfl⟩;unfold lastOf;simp only[ho];omega
theorem Tq(a b:Int)(ha:Byte a)(hb:Byte b):uQ .i64 a (b*256)=a+256*b:=by
 obtain⟨a,rfl⟩:=Int.eq_ofNat_of_zero_le ha.1;obtain⟨b,rfl⟩:=Int.eq_ofNat_of_zero_le hb.1;have h1:=ha.2;have h2:=hb.2;unfold uQ;rw[show((b:Int)*256)=((b*256:Nat):Int) by omega];rw[BitVec.ofInt_natCast,BitVec.ofInt_natCast,BitVec.toNat_or,BitVec.toNat_ofNat,BitVec.toNat_ofNat];rw[Nat.mod_eq_of_lt (show a<2^IntKind.i64.bits by simp[IntKind.bits];omega),Nat.mod_eq_of_lt (show b*256<2^IntKind.i64.bits by simp[IntKind.bits];omega)];rw[Nat.or_comm,show b*256=b <<< 8 by rw[Nat.shiftLeft_eq],← Nat.shiftLeft_add_eq_or_of_lt (by omega),wrap_i64,Nat.shiftLeft_eq,fB (by omega) (by omega)];omega
theorem shl8{y:Int}(hy:Byte y):mh .i64 (aK y) 8=y*256:=by
 unfold Byte at hy;unfold mh;rw[wrap_i64,fB (x:=y) (by omega) (by omega),show(2:Int)^8=256 by decide,fB (by omega) (by omega)]
def grown(c:aT)(part:List Int)(want:Int):aT×List (List Int)×Int:=
 if len (c.In++part)<want then({ c with aG:=aK (c.aG-1),In:=c.In++part,bi:=want },[],0)
 else({ c with aG:=aK (c.aG-1),In:=[],bi:=(-1) },[c.In++part],0)
theorem Jz{c:aT}{part:List Int}{want:Int}(hs:Sm c)(h:Ok c)(hr:c.aG≠0)(h0:0<=want)(h1:want<=c.bZ):Ok (grown c part want).1/\Sm (grown c part want).1/\(grown c part want).2.1.length<=1:=by
 obtain⟨a1,a2,b1,b2,b3,b4,b5,b6,b7,a4,a5,c1,c2,c3⟩:=h;have e:aK (c.aG-1)=c.aG-1:=fB (by omega) (by omega);unfold grown;rw[e];by_cases hl:len (c.In++part)<want
 ·rw[pG0 hl];have hl':((c.In++part).length:Int)<want:=hl;refine⟨⟨a1,a2,b1,b2,b3,b4,b5,?_,b7,a4,a5,c1,?_,?_⟩,⟨hs.out,hs.each,?_⟩,by simp⟩
  ·show 0<=c.aG-1/\c.aG-1<=65535;omega
  ·show -1<=want/\want<=c.bZ;omega
  ·refine⟨fun(hw:want = -1)=>by omega,fun _=>hl'⟩
  ·show(c.In++part).length<=1000000;omega
 ·rw[nG0 hl];refine⟨⟨a1,a2,b1,b2,b3,b4,b5,?_,b7,a4,a5,c1,?_,?_⟩,⟨hs.out,hs.each,by simp⟩,by simp⟩
  ·show 0<=c.aG-1/\c.aG-1<=65535;omega
  ·show -1<=(-1:Int)/\(-1:Int)<=c.bZ;omega
  ·exact⟨fun _=>rfl,fun(hw:(-1:Int)≥0)=>by omega⟩
theorem NV(F:Nat)(c:aT)(part:List Int)(want:Int)(hF:5000<F)(hs:Sm c)(hp:part.length<=1000000):((qa F [c.In,part]).bind fun tF=>
 if (decide ((len tF)<want))=true then
  some ({ c with aG:=aK (c.aG-1),In:=tF,bi:=want },[],0)
 else
  some ({ c with aG:=aK (c.aG-1),In:=[],bi:=(-1) },[tF],0))=some (grown c part want):=by
 have:=hs.inn;rw[zP F _ (by simp;omega) (by simp) (by simp;omega)];simp only[bs,decide_eq_true_eq,List.flatten_cons,List.flatten_nil,List.append_nil];exact RJ _ _ _
def tkn(c:aT)(b:List Int):List Int×Int×Int:=
 if c.aG=0 then([],0,19)else if len b>c.cu then([],0,4)
 else if c.bi = -1 then(match b with
  | x::y::r=>if x+256*y>c.bZ∨(r.length:Int)>x+256*y then([],0,4)else(r,x+256*y,0)
  | _=>([],0,3))
 else if len b=0 then([],0,3)else if len c.In+len b>c.bi then([],0,4)else(b,c.bi,0)
theorem U6(x y:Int)(r:List Int):sub (x::y::r) 2 (len (x::y::r))=some r:=by
 have:=lu (x::y::r) 2 (x::y::r).length (by simp) (by simp);rw[List.take_length]at this;exact this
theorem UW(x y:Int)(r:List Int)(h:r.length<=65536):aK (len (x::y::r)-2)=r.length:=by
 rw[lN,lC0,lC0,fB (by omega) (by omega)];omega
theorem Ap(F:Nat)(c:aT)(b:List Int)(hs:Sm c)(hb:b.length<=65536)(hB:∀x∈b,Byte x)(h:Ok c):q4y F c b=some (tkn c b):=by
 unfold q4y tkn;have hrx:=h.rx;have hlb:=lN b;have hli:=lN c.In;have hin:=hs.inn;by_cases h2:c.aG=0
 ·rw[pG0 (by simp[h2]),pG0 h2]
 rw[nG0 (by simp;omega),nG0 h2];by_cases h3:len b>c.cu
 ·rw[pG0 (by simpa using h3),pG0 h3]
 rw[nG0 (by simpa using h3),nG0 h3];by_cases h4:c.bi = -1
 ·rw[nG0 (by simpa using h4),pG0 h4]
  match b,hB,hb with
  | [],_,_=>rfl
  | [x],_,_=>rfl
  | x::y::r,hB,hb=>
    have hx:=hB x (by simp);have hy:=hB y (by simp);have hr:r.length<=65536:=by simp at hb;omega
    rw[nG0 (c:=decide (len (x::y::r)<2)=true) (by rw[decide_eq_true_eq,lN,lC0,lC0];omega),show idx (x::y::r) 0=some x from rfl,show idx (x::y::r) 1=some y from rfl,bs,bs,shl8 hy];have hx':aK x=x:=fB (by have:=hx.1;omega) (by have:=hx.2;omega);rw[hx',Tq x y hx hy];unfold q7g;rw[UW x y r hr,U6,bs];by_cases h6:x+256*y>c.bZ∨(r.length:Int)>x+256*y
    ·rw[pG0 (by simp;omega)];simp only[pG0 h6]
    ·rw[nG0 (by simp;omega)];simp only[nG0 h6]
 ·rw[pG0 (by simpa using h4),nG0 h4];by_cases h5:len b=0
  ·rw[pG0 (by simpa using h5),pG0 h5]
  rw[nG0 (by simpa using h5),nG0 h5,fB (x:=len c.In+len b) (by omega) (by omega)];by_cases h6:len c.In+len b>c.bi
  ·rw[pG0 (by simpa using h6),pG0 h6]
  ·rw[nG0 (by simpa using h6),nG0 h6];rfl
theorem Ok.sm{c:aT}(h:Ok c):Sm c:=by
 have h1:=h.few;have h2:=h.short;have h3:=h.aam;have h4:=h.want;have h5:=h.inn;have h6:=h.ru;refine⟨by omega,fun s hs=>by have:=h2 s hs;omega,?_⟩;by_cases h7:c.bi = -1
 ·have:=h5.1 h7;omega
 ·have:=h5.2 (by omega);omega
end Sd
end V
namespace V
namespace Fr
theorem dt{p:Prop} [Decidable p](h:p):decide p=true:=decide_eq_true h
theorem df{p:Prop} [Decidable p](h:¬ p):¬ decide p=true:=fun e=>h (of_decide_eq_true e)
structure FOk(f:bJ):Prop where
 c0:0<=f.aU
 c1:f.aU<65536
def bytesOf(f:bJ):List Int:=yO 2 f.al.length++(yO 2 f.aU++f.al)
def enc(f:bJ):List Int×Int:=
 if f.aU=0 then([],1)else if 65531<f.al.length then([],4)else(bytesOf f,0)
theorem abl{f:bJ}(h:FOk f):q4f FF f=some (enc f):=by
 obtain⟨c0,c1⟩:=h;unfold q4f enc;by_cases h0:f.aU=0
 ·rw[pG0 (by simpa using h0),pG0 h0]
 rw[nG0 (by simpa using h0),nG0 h0];by_cases h1:65531<f.al.length
 ·rw[pG0 (dt (show len f.al>65531 from by rw[lN];omega)),pG0 h1]
 rw[nG0 (df (show ¬ len f.al>65531 from by rw[lN];omega)),nG0 h1];have e1:wu64 (len f.al)=f.al.length:=uU (by simp[len]) (by simp[len];omega);have e2:wu64 f.aU=f.aU:=uU (by omega) (by omega);rw[e1,e2,Mv FF [⟨2,f.al.length⟩,⟨2,f.aU⟩] (fun g hg=>by
  simp only[List.mem_cons,List.not_mem_nil,or_false]at hg;rcases hg with rfl | rfl
  ·exact⟨by show(1:Int)<=2;decide,by show(2:Int)<=8;decide,by simp only;omega,by simp only;omega,by show(f.al.length:Int)<256^2;rw[show(256:Int)^2=65536 from by decide];omega⟩
  ·exact⟨by show(1:Int)<=2;decide,by show(2:Int)<=8;decide,by simp only;omega,by simp only;omega,by show f.aU<256^2;rw[show(256:Int)^2=65536 from by decide];omega⟩) (by simp) (by unfold FF;simp)]
 simp only[bs];have e3:kY [⟨2,f.al.length⟩,⟨2,f.aU⟩]=yO 2 f.al.length++yO 2 f.aU:=by simp[kY]
 rw[nG0 (by simp),e3,Cb FF _ _ (by unfold FF;omega) (by simp[lL];omega)];simp[bytesOf]
theorem Gw{x:Int}(hx:Byte x):mh .i64 (aK x) 8=x*256:=by
 obtain⟨h0,h1⟩:=hx;unfold mh;rw[wrap_i64,bP (x:=x) (by omega) (by omega),show(2:Int)^8=256 by decide,bP (by omega) (by omega)]
theorem OY{x:Int}(hx:Byte x):mh .u16 (kI x) 8=x*256:=by
 obtain⟨h0,h1⟩:=hx;unfold mh;rw[wrap_u16,jq (x:=x) (by omega) (by omega),show(2:Int)^8=256 by decide,jq (by omega) (by omega)]
theorem yM(a b:Nat)(ha:a<256):a ||| (b*256)=a+b*256:=by
 have h:=Nat.shiftLeft_add_eq_or_of_lt (i:=8) (show a<2^8 by omega) b;rw[Nat.shiftLeft_eq]at h;rw[Nat.or_comm,show(256:Nat)=2^8 from rfl,← h,Nat.add_comm]
theorem F3{x y:Int}(hx:Byte x)(hy:Byte y):uQ .i64 (aK x) (y*256)=x+256*y:=by
 obtain⟨h0,h1⟩:=hx;obtain⟨g0,g1⟩:=hy;rw[bP (by omega) (by omega)];obtain⟨x,rfl⟩:=Int.eq_ofNat_of_zero_le h0;obtain⟨y,rfl⟩:=Int.eq_ofNat_of_zero_le g0;unfold uQ;have e:(BitVec.ofInt IntKind.i64.bits (x:Int) ||| BitVec.ofInt IntKind.i64.bits ((y:Int)*256)).toNat=x+y*256:=by
  rw[show((y:Int)*256)=((y*256:Nat):Int)from by rw[Int.natCast_mul];rfl,BitVec.toNat_or];show(BitVec.ofInt 64 (x:Int)).toNat ||| (BitVec.ofInt 64 ((y*256:Nat):Int)).toNat=_
  rw[BitVec.toNat_ofInt,BitVec.toNat_ofInt];rw[show(((x:Nat):Int)%((2^64:Nat):Int)).toNat=x from by rw[← Int.natCast_emod,Int.toNat_natCast,Nat.mod_eq_of_lt (by omega)]];rw[show(((y*256:Nat):Int)%((2^64:Nat):Int)).toNat=y*256 from by rw[← Int.natCast_emod,Int.toNat_natCast,Nat.mod_eq_of_lt (by omega)]];exact yM x y (by omega)
 rw[e,wrap_i64,bP (by omega) (by omega)];omega
theorem Oy{x y:Int}(hx:Byte x)(hy:Byte y):uQ .u16 (kI x) (y*256)=x+256*y:=by
 obtain⟨h0,h1⟩:=hx;obtain⟨g0,g1⟩:=hy;rw[jq (by omega) (by omega)];obtain⟨x,rfl⟩:=Int.eq_ofNat_of_zero_le h0;obtain⟨y,rfl⟩:=Int.eq_ofNat_of_zero_le g0;unfold uQ;have e:(BitVec.ofInt IntKind.u16.bits (x:Int) ||| BitVec.ofInt IntKind.u16.bits ((y:Int)*256)).toNat=x+y*256:=by
  rw[show((y:Int)*256)=((y*256:Nat):Int)from by rw[Int.natCast_mul];rfl,BitVec.toNat_or];show(BitVec.ofInt 16 (x:Int)).toNat ||| (BitVec.ofInt 16 ((y*256:Nat):Int)).toNat=_
  rw[BitVec.toNat_ofInt,BitVec.toNat_ofInt];rw[show(((x:Nat):Int)%((2^16:Nat):Int)).toNat=x from by rw[← Int.natCast_emod,Int.toNat_natCast,Nat.mod_eq_of_lt (by omega)]];rw[show(((y*256:Nat):Int)%((2^16:Nat):Int)).toNat=y*256 from by rw[← Int.natCast_emod,Int.toNat_natCast,Nat.mod_eq_of_lt (by omega)]];exact yM x y (by omega)
 rw[e,wrap_u16,jq (by omega) (by omega)];omega
def hd:List Int->Int×Int
 | a::b::c::d::_=>(a+256*b,c+256*d)
 | _=>(0,0)
theorem four{b:List Int}(h:4<=b.length):∃x y z u r,b=x::y::z::u::r:=by
 match b,h with
 | x::y::z::u::r,_=>exact⟨x,y,z,u,r,rfl⟩
theorem O0{b:List Int}(hb:∀x∈b,Byte x)(h:4<=b.length):q4g FF b=some (hd b):=by
 obtain⟨x,y,z,u,r,rfl⟩:=four h;have hx:=hb x (by simp);have hy:=hb y (by simp);have hz:=hb z (by simp);have hu:=hb u (by simp);unfold q4g;rw[show idx (x::y::z::u::r) 0=some x from rfl,bs,show idx (x::y::z::u::r) 1=some y from rfl,bs,
  show idx (x::y::z::u::r) 2=some z from rfl,bs,show idx (x::y::z::u::r) 3=some u from rfl,bs,
  Gw hy,OY hu,F3 hx hy,Oy hz hu]
 rfl
theorem sub4{b:List Int}(h:4<=b.length):sub b 4 (len b)=some (b.drop 4):=by
 rw[lN,show(4:Int)=((4:Nat):Int)from rfl,lu b 4 b.length h (lR _),List.take_length]
theorem jl(f:bJ):(bytesOf f).length=f.al.length+4:=by simp[bytesOf,lL];omega
theorem GL{f:bJ}(h:∀x∈f.al,Byte x):∀x∈bytesOf f,Byte x:=by
 intro x hx;unfold bytesOf at hx;simp only[List.mem_append]at hx;rcases hx with hx | hx | hx
 ·exact vS _ _ _ hx
 ·exact vS _ _ _ hx
 ·exact h x hx
theorem Lv{f:bJ}:bytesOf f=(f.al.length:Int)%256::(f.al.length:Int)/256%256::f.aU%256::f.aU/256%256::f.al:=rfl
theorem Lb{f:bJ}(h:FOk f)(hl:f.al.length<=65531):hd (bytesOf f)=((f.al.length:Int),f.aU):=by
 obtain⟨c0,c1⟩:=h;rw[Lv];simp only[hd];congr 1 <;> omega
end Fr
end V
namespace V
namespace Fr
def az:kH:=⟨false,[]⟩
structure Val(a:kH):Prop where
 off:a.On=false->a.ao=[]
 on:a.On=true->a.ao≠[]
 hdr:a.On=true->4<=a.ao.length->(hd a.ao).2≠0/\(hd a.ao).1<=65531/\(a.ao.length:Int)-4<(hd a.ao).1
 yT:∀x∈a.ao,Byte x
theorem Val.len{a:kH}(h:Val a):a.ao.length<=65535:=by
 cases ho:a.On with
 | false=>rw[h.off ho];simp
 | true=>
   rcases Nat.lt_or_ge a.ao.length 4 with h4 | h4
   ·omega
   ·have:=h.hdr ho h4;omega
theorem Ak:Val az:=⟨fun _=>rfl,(fun h=>by cases h),(fun h=>by cases h),fun x hx=>by simp[az]at hx⟩
def M6(b:List Int)(e:Int):kH×List bJ×Int:=
 if b.length<4 then(⟨true,b⟩,[],e)
 else if (hd b).2=0 then(az,[],if e=0 then 1 else e)
 else if 65531<(hd b).1∨(hd b).1<(b.length:Int)-4 then(az,[],if e=0 then 4 else e)
 else if (b.length:Int)-4<(hd b).1 then(⟨true,b⟩,[],e)
 else(az,[⟨(hd b).2,b.drop 4⟩],e)
theorem M4{b:List Int}(hb:∀x∈b,Byte x)(hne:b≠[])(e:Int):Val (M6 b e).1:=by
 unfold M6;split
 ·rename_i h0;exact⟨(fun h=>by cases h),fun _=>hne,(fun _ h=>by simp only at h;omega),hb⟩
 ·split
  ·exact Ak
  ·rename_i h1;split
   ·exact Ak
   ·rename_i h2;split
    ·rename_i h3;exact⟨(fun h=>by cases h),fun _=>hne,fun _ _=>⟨h1,by simp only;omega,h3⟩,hb⟩
    ·exact Ak
theorem Cr(b:List Int)(e:Int):(M6 b e).2.1.length<=1:=by
 unfold M6
 (repeat' split) <;> simp
theorem M0(e x:Int):q5l FF e x=some (az,[],if e=0 then x else e):=by
 unfold q5l;by_cases h:e=0
 ·rw[pG0 (show(e==0)=true from by simpa using h),pG0 h];rfl
 ·rw[nG0 (show ¬ (e==0)=true from by simpa using h),nG0 h];rfl
theorem abb{b:List Int}(hb:∀x∈b,Byte x)(hl:b.length<=1000000)(e:Int):q4h FF b e=some (M6 b e):=by
 unfold q4h M6;by_cases h0:b.length<4
 ·rw[pG0 (dt (show len b<4 from by rw[lN];omega)),pG0 h0]
 rw[nG0 (df (show ¬ len b<4 from by rw[lN];omega)),nG0 h0,O0 hb (by omega),bs];have ew:aK (len b-4)=(b.length:Int)-4:=bP (by rw[lN];omega) (by rw[lN];omega);rw[ew];by_cases h1:(hd b).2=0
 ·rw[pG0 (show((hd b).2==0)=true from by simpa using h1),pG0 h1,M0]
 rw[nG0 (show ¬ ((hd b).2==0)=true from by simpa using h1),nG0 h1];by_cases h2:65531<(hd b).1∨(hd b).1<(b.length:Int)-4
 ·rw[pG0 (show(decide ((hd b).1>65531)||decide ((b.length:Int)-4>(hd b).1))=true from by simpa using h2),pG0 h2,M0]
 rw[nG0 (show ¬ (decide ((hd b).1>65531)||decide ((b.length:Int)-4>(hd b).1))=true from by simpa using h2),nG0 h2]
 by_cases h3:(b.length:Int)-4<(hd b).1
 ·rw[pG0 (show decide ((b.length:Int)-4<(hd b).1)=true from by simpa using h3),pG0 h3]
 rw[nG0 (show ¬ decide ((b.length:Int)-4<(hd b).1)=true from by simpa using h3),nG0 h3,sub4 (by omega),bs,join_one FF _ (by unfold FF;omega) (by simp;omega)];rfl
def feed(a:kH)(p:eH):kH×List bJ×Int:=
 if p.dO=1/\p.al=[]then(a,[],0)
 else if (p.dO≠1/\p.dO≠2)∨p.al=[]then(a,[],12)
 else if p.dO=2 then M6 p.al (if a.On=true then 13 else 0)
 else if a.On=false then(az,[],13)
 else M6 (a.ao++p.al) 0
theorem Jh(l:List Int):(len l==0)=decide (l=[]):=by
 cases l with
 | nil=>rfl
 | cons x r=>
   have h1:(len (x::r)==0)=false:=by
    rw[beq_eq_false_iff_ne,lN,lC0];omega
   rw[h1];simp
theorem lg{a:kH}(h:a.ao.length<=140737488355328):q2r FF a=some a:=by
 unfold q2r q71;rw[join_one FF _ (by unfold FF;omega) h];rfl
theorem WK{a:kH}{p:eH}(ha:Val a)(hp:∀x∈p.al,Byte x)(hl:p.al.length<=200000):q3m FF a p=some (feed a p):=by
 have hal:=ha.len;have hc:=lg (a:=a) (by omega);unfold q3m feed;rw[Jh p.al,Jh a.ao];have hemp:((!a.On)&&decide (a.ao=[])) = !a.On:=by
  cases ho:a.On with
  | false=>simp[ha.off ho]
  | true=>simp
 rw[hemp];by_cases h0:p.dO=1/\p.al=[]
 ·rw[pG0 (show((p.dO==1)&&decide (p.al=[]))=true from by simpa using h0),pG0 h0,hc];rfl
 rw[nG0 (show ¬ ((p.dO==1)&&decide (p.al=[]))=true from by simpa using h0),nG0 h0];by_cases h1:(p.dO≠1/\p.dO≠2)∨p.al=[]
 ·rw[pG0 (show(((p.dO != 1)&&(p.dO != 2))||decide (p.al=[]))=true from by simpa using h1),pG0 h1,hc];rfl
 rw[nG0 (show ¬ (((p.dO != 1)&&(p.dO != 2))||decide (p.al=[]))=true from by simpa using h1),nG0 h1]
 have j1:∀(x:Int) (b:List Int),(∀x∈b,Byte x)->b.length<=1000000->q5m FF x b=some (M6 b x):=fun x b hb hbl=>by
  unfold q5m;rw[abb hb hbl];rfl
 have j2:∀x,q5n FF p x=some (M6 p.al x):=fun x=>by
  unfold q5n;rw[join_one FF _ (by unfold FF;omega) (by omega),bs,j1 x _ hp (by omega)]
 by_cases h2:p.dO=2
 ·rw[pG0 (show(p.dO==2)=true from by simpa using h2),pG0 h2];cases ho:a.On with
  | false=>rw[nG0 (by decide),j2];rfl
  | true=>rw[pG0 (by decide),j2];rfl
 rw[nG0 (show ¬ (p.dO==2)=true from by simpa using h2),nG0 h2];cases ho:a.On with
 | false=>rfl
 | true=>
   rw[nG0 (by decide),nG0 (by decide),Cb FF _ _ (by unfold FF;omega) (by omega),bs,j1 0 _ (fun x hx=>(List.mem_append.1 hx).elim (ha.yT x) (hp x)) (by simp;omega)]
theorem wu{a:kH}{p:eH}(ha:Val a)(hp:∀x∈p.al,Byte x):Val (feed a p).1:=by
 unfold feed;split
 ·exact ha
 ·split
  ·exact ha
  ·rename_i h1;have hne:p.al≠[]:=fun h=>h1 (.inr h);split
   ·exact M4 hp hne _
   ·split
    ·exact Ak
    ·exact M4 (fun x hx=>(List.mem_append.1 hx).elim (ha.yT x) (hp x)) (by simp[hne]) _
theorem JE(a:kH)(p:eH):(feed a p).2.1.length<=1:=by
 unfold feed;split
 ·simp
 ·split
  ·simp
  ·split
   ·exact Cr _ _
   ·split
    ·simp
    ·exact Cr _ _
end Fr
end V
namespace V
structure ae8 where
 Known:Bool
 bQ:Bool
 am:Bool
 bT:Bool
 YN:Bool
 aA:Bool
 Result:Bool
 ai:Bool
namespace Sg
theorem kinds(k:Int):k=1∨k=6∨k=7∨k=18∨k=19∨k=20∨k=21∨k=22∨(k≠1/\k≠6/\k≠7/\k≠18/\k≠19/\k≠20/\k≠21/\k≠22):=by omega
def aJ(k:Int):ae8:=
 if k=1∨k=19 then⟨true,false,false,false,false,false,true,false⟩
 else if k=6∨k=7 then⟨true,false,true,true,false,false,false,false⟩
 else if k=18 then⟨true,false,false,false,false,false,false,true⟩
 else if k=20 then⟨true,true,true,false,true,true,false,false⟩
 else if k=21 then⟨true,false,true,false,true,true,true,false⟩
 else if k=22 then⟨true,false,true,false,false,true,false,false⟩
 else⟨false,false,false,false,false,false,false,false⟩
theorem Ca(F:Nat)(k:Int):q2g F k=some (aJ k).Known:=by
 rcases kinds k with rfl | rfl | rfl | rfl | rfl | rfl | rfl | rfl | h
 any_goals rfl
 obtain⟨h1,h2,h3,h4,h5,h6,h7,h8⟩:=h;simp[q2g,UH,aJ,h1,h2,h3,h4,h5,h6,h7,h8]
def wZ(u:jF):Bool:=((u.bO==0)&&((u.aY==0)&&((u.aE==0)&&((u.aN==0)&&(u.ba==0)))))
def fq(s:aQ):Bool:=
 ((aJ s.ae).bQ||s.bQ==0)&&((aJ s.ae).am||s.am==0)&&((aJ s.ae).bT||s.bT==0)&&((aJ s.ae).YN||(s.bZ==0&&s.cu==0))&&((aJ s.ae).aA||s.aA==0)&&((aJ s.ae).Result||s.Result==0) &&
   ((aJ s.ae).ai||wZ s.ai)
theorem FD(F:Nat)(s:aQ):∃x,q47 F s=some x/\((s.ae==x.ae)&&((s.ID==x.ID)&&((s.bQ==x.bQ)&&((s.am==x.am)&&((s.bT==x.bT)&&((s.bZ==x.bZ)&&((s.cu==x.cu)&&((s.aA==x.aA)&&((s.Result==x.Result)&&((s.ai.bO==x.ai.bO)&&((s.ai.aY==x.ai.aY)&&((s.ai.aE==x.ai.aE)&&((s.ai.aN==x.ai.aN)&&(s.ai.ba==x.ai.ba))))))))))))))=fq s:=by
 obtain⟨k,id,p,so,de,mt,mp,cr,re,⟨u1,u2,u3,u4,u5⟩⟩:=s;rcases kinds k with rfl | rfl | rfl | rfl | rfl | rfl | rfl | rfl | h
 any_goals
  refine⟨_,rfl,?_⟩;simp[fq,aJ,wZ,Bool.and_assoc]
 ·obtain⟨h1,h2,h3,h4,h5,h6,h7,h8⟩:=h;refine⟨_,by simp only[q47,h1,h2,h3,h4,h5,h6,h7,h8,beq_iff_eq,if_false];rfl,?_⟩;simp[fq,aJ,wZ,Bool.and_assoc,h1,h2,h3,h4,h5,h6,h7,h8]
def kR(s:aQ):Bool:=!(aJ s.ae).Result||(if s.ae=1 then((s.Result==0)||(s.Result==2))else if s.ae=19 then((s.Result==0)||(s.Result==1))else(((((s.Result==0)||(s.Result==2))||(s.Result==4))||(s.Result==5))||(s.Result==9)))
theorem Oo(F:Nat)(s:aQ):q3k F s=some (kR s):=by
 obtain⟨k,id,p,so,de,mt,mp,cr,re,u⟩:=s;rcases kinds k with rfl | rfl | rfl | rfl | rfl | rfl | rfl | rfl | h
 any_goals rfl
 ·simp only[q3k,q3j,kR,aJ];cases h0:re==0 <;> cases h1:re==2 <;> cases h2:re==4 <;> cases h3:re==5 <;> simp
  by_cases h9:re=9 <;> simp[h9]
 ·obtain⟨h1,h2,h3,h4,h5,h6,h7,h8⟩:=h;simp[q3k,kR,aJ,h1,h2,h3,h4,h5,h6,h7,h8]
def mq(n:Int):Bool:=(decide (n≥64))&&(decide (n<=127))
def XU(n:Int):Bool:=(decide (n≥23))&&(decide (n<=4096))
def iK(s:aQ):Bool:=(!(aJ s.ae).am||mq s.am)&&(!(aJ s.ae).bT||mq s.bT)&&(!(aJ s.ae).YN||(XU s.bZ&&XU s.cu))&&(!(aJ s.ae).aA||((decide (s.aA≥(if s.ae=22 then 1 else 0)))&&(decide (s.aA<=65535))))
theorem Ot(F:Nat)(s:aQ):VK F s=some (iK s):=by
 obtain⟨k,id,p,so,de,mt,mp,cr,re,u⟩:=s;rcases kinds k with rfl | rfl | rfl | rfl | rfl | rfl | rfl | rfl | h
 ·rfl
 ·simp only[VK,VH,qq,iK,aJ,mq];cases (decide (so≥64))&&(decide (so<=127)) <;> simp
 ·simp only[VK,VH,qq,iK,aJ,mq];cases (decide (so≥64))&&(decide (so<=127)) <;> simp
 ·rfl
 ·rfl
 ·simp only[VK,VH,q3l,qq,q2i,iK,aJ,mq,XU];cases (decide (so≥64))&&(decide (so<=127)) <;> cases (decide (mt≥23))&&(decide (mt<=4096)) <;> simp[Bool.and_assoc]
 ·simp only[VK,VH,q3l,qq,q2i,iK,aJ,mq,XU];cases (decide (so≥64))&&(decide (so<=127)) <;> cases (decide (mt≥23))&&(decide (mt<=4096)) <;> simp[Bool.and_assoc]
 ·simp only[VK,VH,q3l,qq,iK,aJ,mq];simp[Bool.and_assoc]
 ·obtain⟨h1,h2,h3,h4,h5,h6,h7,h8⟩:=h;simp[VK,VH,q3l,iK,aJ,h1,h2,h3,h4,h5,h6,h7,h8]
def pR(p:wQ):Bool:=!((decide (p.n<p.bp))||(decide (p.n>p.bo)))
theorem NC(F:Nat)(l:List wQ)(hF:l.length<F)(hl:l.length<=1000):q48 F l=some (l.all pR):=by
 unfold q48;have:=Ch (body:=fun s=>Yi F l s) (l:=l) (p:=fun p=>!pR p) (o:=.inr false) (e:=.inl ()) (fun i x hx=>by
  have hlt:=(gS.1 hx).1;show Yi F l i=_;unfold Yi;rw[pG0 (by simp[len];omega),dN,hx];simp only[bs,pR,Bool.not_not];rw[wN i (by omega)];split <;> rfl) (by
  show Yi F l _=_;unfold Yi;rw[nG0 (by simp[len])]) F 0 (by omega) (by omega)
 rw[show((0:Nat):Int)=0 from rfl]at this;rw[this];simp only[bs,List.drop_zero];have h2:(l.any fun p=>!pR p) = !(l.all pR):=by
  rw[List.any_eq_not_all_not];simp
 rw[h2];cases l.all pR <;> rfl
def nM(u:jF):Int:=
 if ([(⟨u.bO,1,8⟩:wQ),⟨u.aY,0,3200⟩,⟨u.aE,6,3200⟩,⟨u.aN,0,499⟩,⟨u.ba,10,3200⟩].all pR)=false then 5 else
 if (((decide (u.bO≥u.aE))||(decide (u.aY>u.aE)))||(decide ((aK (u.ba*10000))<=(aK ((aK ((aK (2*(aK (u.aN+1))))*u.aE))*1250)))))=true then 11 else 0
theorem Qm(F:Nat)(u:jF)(hF:5<F):q2k F u=some (nM u):=by
 unfold q2k nM;rw[NC F _ (by simpa using hF) (by simp)];simp only[bs];generalize List.all _ pR=b;cases b <;> simp <;> split <;> rfl
def wW(s:aQ):Int:=
 if (aJ s.ae).Known=false then 12 else if ((decide (s.ID<1))||(decide (s.ID>255)))=true then 5 else if fq s=false then 1 else if kR s=false then 5 else
 if ((s.ae==21)&&(s.Result != 0))=true then(if ((((s.am != 0)||(s.bZ != 0))||(s.cu != 0))||(s.aA != 0))=true then 1 else 0)else
 if ((aJ s.ae).bQ&&(s.bQ==0))=true then 1 else if iK s=false then 5 else if (aJ s.ae).ai=true then nM s.ai else 0
theorem Q9(k:Int):(aJ k).bQ=(k==20):=by
 rcases kinds k with rfl | rfl | rfl | rfl | rfl | rfl | rfl | rfl | h
 any_goals rfl
 obtain⟨h1,h2,h3,h4,h5,h6,h7,h8⟩:=h;simp[aJ,h1,h2,h3,h4,h5,h6,h7,h8]
theorem H9(k:Int):(aJ k).ai=(k==18):=by
 rcases kinds k with rfl | rfl | rfl | rfl | rfl | rfl | rfl | rfl | h
 any_goals rfl
 obtain⟨h1,h2,h3,h4,h5,h6,h7,h8⟩:=h;simp[aJ,h1,h2,h3,h4,h5,h6,h7,h8]
theorem DL(F:Nat)(s:aQ)(hF:5<F):q2l F s=some (wW s):=by
 unfold q2l wW;obtain⟨x,hx,he⟩:=FD F s;rw[Ca,hx];simp only[bs,he,q6o,Oo,Ot,Qm F _ hF,Q9,H9];cases (aJ s.ae).Known <;> simp only[Bool.not_true,Bool.not_false,if_true,if_false,Bool.false_eq_true,reduceCtorEq]
 cases (decide (s.ID<1))||(decide (s.ID>255)) <;> simp only[if_true,if_false,Bool.false_eq_true]
 cases fq s <;> simp only[Bool.not_true,Bool.not_false,if_true,if_false,Bool.false_eq_true,reduceCtorEq]
 cases kR s <;> simp only[Bool.not_true,Bool.not_false,if_true,if_false,Bool.false_eq_true,reduceCtorEq]
 cases (s.ae==21)&&(s.Result != 0) <;> simp only[if_true,if_false,Bool.false_eq_true]
 ·cases (s.ae==20)&&(s.bQ==0) <;> simp only[if_true,if_false,Bool.false_eq_true]
  cases iK s <;> simp only[Bool.not_true,Bool.not_false,if_true,if_false,Bool.false_eq_true,reduceCtorEq]
  cases s.ae==18 <;> simp only[if_true,if_false,Bool.false_eq_true]
 ·split <;> rfl
end Sg
end V
namespace V
namespace Sg
def aZ(s:aQ):List (Nat×Int):=
 if s.ae=1∨s.ae=19 then [(2,s.Result)]
 else if s.ae=6∨s.ae=7 then [(2,s.am),(2,s.bT)]
 else if s.ae=18 then [(1,s.ai.bO),(2,s.ai.aY),(2,s.ai.aE),(2,s.ai.aN),(2,s.ai.ba)]
 else if s.ae=20 then [(2,s.bQ),(2,s.am),(2,s.bZ),(2,s.cu),(2,s.aA)]
 else if s.ae=21 then [(2,s.am),(2,s.bZ),(2,s.cu),(2,s.aA),(2,s.Result)]
 else [(2,s.am),(2,s.aA)]
def Fit(s:aQ):Prop:=∀p∈aZ s,0<=p.2/\p.2<256^p.1
theorem jk{s:aQ}(h:wW s=0):(aJ s.ae).Known=true/\1<=s.ID/\s.ID<=255/\fq s=true/\kR s=true/\
 ((s.ae=21/\s.am=0/\s.bZ=0/\s.cu=0/\s.aA=0)∨(iK s=true/\(s.ae=18->nM s.ai=0))):=by
 unfold wW at h;split at h
 ·cases h
 rename_i h1;split at h
 ·cases h
 rename_i h2;split at h
 ·cases h
 rename_i h3;split at h
 ·cases h
 rename_i h4;simp at h2;refine⟨by simpa using h1,by omega,by omega,by simpa using h3,by simpa using h4,?_⟩;split at h
 ·rename_i h5;split at h
  ·cases h
  ·rename_i h6;simp at h5 h6;exact .inl ⟨h5.1,by omega,by omega,by omega,by omega⟩
 ·split at h
  ·cases h
  ·split at h
   ·cases h
   ·rename_i h7;refine .inr ⟨by simpa using h7,fun hk=>?_⟩;rw[H9,hk]at h;simpa using h
theorem mo{n:Int}:mq n=true↔64<=n/\n<=127:=by simp[mq]
theorem u6{n:Int}:XU n=true↔23<=n/\n<=4096:=by simp[XU]
theorem Ql{u:jF}(h:nM u=0):(1<=u.bO/\u.bO<=8)/\(0<=u.aY/\u.aY<=3200)/\(6<=u.aE/\u.aE<=3200)/\(0<=u.aN/\u.aN<=499)/\10<=u.ba/\u.ba<=3200:=by
 unfold nM at h;split at h
 ·cases h
 ·rename_i h1;simp[pR]at h1;omega
theorem p2:(256:Int)^2=65536:=by decide
theorem p1:(256:Int)^1=256:=by decide
theorem R4{s:aQ}(h:wW s=0)(hp:0<=s.bQ/\s.bQ<=65535):Fit s:=by
 obtain⟨h1,_,_,h4,h5,h6⟩:=jk h;obtain⟨k,id,p,so,de,mt,mp,cr,re,u⟩:=s;rcases kinds k with rfl | rfl | rfl | rfl | rfl | rfl | rfl | rfl | hk
 ·simp[kR,aJ]at h5;intro q hq;simp[aZ]at hq;subst hq;simp only[p2];omega
 ·simp[iK,aJ,mo]at h6;intro q hq;simp[aZ]at hq;rcases hq with rfl | rfl <;> simp only[p2] <;> omega
 ·simp[iK,aJ,mo]at h6;intro q hq;simp[aZ]at hq;rcases hq with rfl | rfl <;> simp only[p2] <;> omega
 ·have h7:nM u=0:=by
   simp at h6;exact h6.2
  obtain⟨g1,g2,g3,g4,g5⟩:=Ql h7;intro q hq;simp[aZ]at hq;rcases hq with rfl | rfl | rfl | rfl | rfl <;> simp only[p2,p1] <;> omega
 ·simp[kR,aJ]at h5;intro q hq;simp[aZ]at hq;subst hq;simp only[p2];omega
 ·simp[iK,aJ,mo,u6]at h6;intro q hq;simp[aZ]at hq;rcases hq with rfl | rfl | rfl | rfl | rfl <;> simp only[p2] <;> simp only at hp <;> omega
 ·simp[kR,aJ]at h5;simp[iK,aJ,mo,u6]at h6;intro q hq;simp[aZ]at hq;rcases hq with rfl | rfl | rfl | rfl | rfl <;> simp only[p2] <;> omega
 ·simp[iK,aJ,mo,u6]at h6;intro q hq;simp[aZ]at hq;rcases hq with rfl | rfl <;> simp only[p2] <;> omega
 ·obtain⟨g1,g2,g3,g4,g5,g6,g7,g8⟩:=hk;simp[aJ,g1,g2,g3,g4,g5,g6,g7,g8]at h1
def eY(s:aQ):List Int:=((aZ s).map fun p=>yO p.1 p.2).flatten
def gX(s:aQ):List Int:=[kP s.ae,kP s.ID,kP ((eY s).length:Int),0]++eY s
def uE(s:aQ):List tZ:=(aZ s).map fun p=>⟨(p.1:Int),p.2⟩
theorem R3(s:aQ):kY (uE s)=eY s:=by
 unfold kY uE eY;rw[List.map_map];rfl
theorem NH(s:aQ):∀p∈aZ s,p.1=1∨p.1=2:=by
 intro p hp;unfold aZ at hp
 (repeat' split at hp) <;> simp at hp <;> (try rcases hp with rfl | rfl | rfl | rfl | rfl) <;> (try rcases hp with rfl | rfl) <;> (try subst hp) <;> simp
theorem WG{s:aQ}(h:Fit s):∀f∈uE s,z8 f:=by
 intro f hf;obtain⟨p,hp,rfl⟩:=List.mem_map.1 hf;obtain⟨h1,h2⟩:=h p hp;rcases NH s p hp with e | e
 ·rw[e]at h2;refine⟨by simp[e],by simp[e],h1,?_,by simpa [e]using h2⟩;simp only[p1]at h2;show p.2<_;omega
 ·rw[e]at h2;refine⟨by simp[e],by simp[e],h1,?_,by simpa [e]using h2⟩;simp only[p2]at h2;show p.2<_;omega
theorem Qk(s:aQ):(aZ s).length<=5:=by
 unfold aZ
 (repeat' split) <;> simp
theorem wH(s:aQ):(eY s).length<=10:=by
 unfold eY aZ
 (repeat' split) <;> simp[lL]
theorem Sq(s:aQ)(h:Fit s)(hk:(aJ s.ae).Known=true):∃sz nu,qt FF s.ae=some sz/\q5g FF s=some nu/\
 iter (fun t=>PW FF sz nu t.1 t.2.1 t.2.2) FF ([],0,0)=some (uE s,((eY s).length:Int)):=by
 have wid:∀{x:Int} {k:Nat},0<=x/\x<256^k->k=1∨k=2->wu64 x=x/\wu64 (aK x)=x:=by
  intro x k hx hk;have:x<65536:=by rcases hk with rfl | rfl <;> simp only[p1,p2]at hx <;> omega
  rw[bP (by omega) (by omega),uU (by omega) (by omega)];exact⟨rfl,rfl⟩
 obtain⟨k,id,p,so,de,mt,mp,cr,re,⟨u1,u2,u3,u4,u5⟩⟩:=s;rcases kinds k with rfl | rfl | rfl | rfl | rfl | rfl | rfl | rfl | hk'
 ·refine⟨_,_,rfl,rfl,?_⟩;have e1:=(wid (h (2,re) (by simp[aZ])) (.inr rfl)).1;have:iter (fun t=>PW FF [2] [re] t.1 t.2.1 t.2.2) FF ([],0,0)=some ([⟨2,wu64 re⟩],2):=by kernel_rfl
  rw[e1]at this;exact this
 ·refine⟨_,_,rfl,rfl,?_⟩;have e1:=(wid (h (2,so) (by simp[aZ])) (.inr rfl)).2;have e2:=(wid (h (2,de) (by simp[aZ])) (.inr rfl)).2;have:iter (fun t=>PW FF [2,2] [aK so,aK de] t.1 t.2.1 t.2.2) FF ([],0,0)=some ([⟨2,wu64 (aK so)⟩,⟨2,wu64 (aK de)⟩],4):=by kernel_rfl
  rw[e1,e2]at this;exact this
 ·refine⟨_,_,rfl,rfl,?_⟩;have e1:=(wid (h (2,so) (by simp[aZ])) (.inr rfl)).2;have e2:=(wid (h (2,de) (by simp[aZ])) (.inr rfl)).2;have:iter (fun t=>PW FF [2,2] [aK so,aK de] t.1 t.2.1 t.2.2) FF ([],0,0)=some ([⟨2,wu64 (aK so)⟩,⟨2,wu64 (aK de)⟩],4):=by kernel_rfl
  rw[e1,e2]at this;exact this
 ·refine⟨_,_,rfl,rfl,?_⟩;have e1:=(wid (h (1,u1) (by simp[aZ])) (.inl rfl)).1;have e2:=(wid (h (2,u2) (by simp[aZ])) (.inr rfl)).1;have e3:=(wid (h (2,u3) (by simp[aZ])) (.inr rfl)).1;have e4:=(wid (h (2,u4) (by simp[aZ])) (.inr rfl)).1;have e5:=(wid (h (2,u5) (by simp[aZ])) (.inr rfl)).1;have:iter (fun t=>PW FF [1,2,2,2,2] [u1,u2,u3,u4,u5] t.1 t.2.1 t.2.2) FF ([],0,0)=some ([⟨1,wu64 u1⟩,⟨2,wu64 u2⟩,⟨2,wu64 u3⟩,⟨2,wu64 u4⟩,⟨2,wu64 u5⟩],9):=by kernel_rfl
  rw[e1,e2,e3,e4,e5]at this;exact this
 ·refine⟨_,_,rfl,rfl,?_⟩;have e1:=(wid (h (2,re) (by simp[aZ])) (.inr rfl)).1;have:iter (fun t=>PW FF [2] [re] t.1 t.2.1 t.2.2) FF ([],0,0)=some ([⟨2,wu64 re⟩],2):=by kernel_rfl
  rw[e1]at this;exact this
 ·refine⟨_,_,rfl,rfl,?_⟩;have e1:=(wid (h (2,p) (by simp[aZ])) (.inr rfl)).2;have e2:=(wid (h (2,so) (by simp[aZ])) (.inr rfl)).2;have e3:=(wid (h (2,mt) (by simp[aZ])) (.inr rfl)).1;have e4:=(wid (h (2,mp) (by simp[aZ])) (.inr rfl)).1;have e5:=(wid (h (2,cr) (by simp[aZ])) (.inr rfl)).1;have:iter (fun t=>PW FF [2,2,2,2,2] [aK p,aK so,mt,mp,cr] t.1 t.2.1 t.2.2) FF ([],0,0)=some ([⟨2,wu64 (aK p)⟩,⟨2,wu64 (aK so)⟩,⟨2,wu64 mt⟩,⟨2,wu64 mp⟩,⟨2,wu64 cr⟩],10):=by kernel_rfl
  rw[e1,e2,e3,e4,e5]at this;exact this
 ·refine⟨_,_,rfl,rfl,?_⟩;have e1:=(wid (h (2,so) (by simp[aZ])) (.inr rfl)).2;have e2:=(wid (h (2,mt) (by simp[aZ])) (.inr rfl)).1;have e3:=(wid (h (2,mp) (by simp[aZ])) (.inr rfl)).1;have e4:=(wid (h (2,cr) (by simp[aZ])) (.inr rfl)).1;have e5:=(wid (h (2,re) (by simp[aZ])) (.inr rfl)).1;have:iter (fun t=>PW FF [2,2,2,2,2] [aK so,mt,mp,cr,re] t.1 t.2.1 t.2.2) FF ([],0,0)=some ([⟨2,wu64 (aK so)⟩,⟨2,wu64 mt⟩,⟨2,wu64 mp⟩,⟨2,wu64 cr⟩,⟨2,wu64 re⟩],10):=by kernel_rfl
  rw[e1,e2,e3,e4,e5]at this;exact this
 ·refine⟨_,_,rfl,rfl,?_⟩;have e1:=(wid (h (2,so) (by simp[aZ])) (.inr rfl)).2;have e2:=(wid (h (2,cr) (by simp[aZ])) (.inr rfl)).1;have:iter (fun t=>PW FF [2,2] [aK so,cr] t.1 t.2.1 t.2.2) FF ([],0,0)=some ([⟨2,wu64 (aK so)⟩,⟨2,wu64 cr⟩],4):=by kernel_rfl
  rw[e1,e2]at this;exact this
 ·obtain⟨g1,g2,g3,g4,g5,g6,g7,g8⟩:=hk';simp[aJ,g1,g2,g3,g4,g5,g6,g7,g8]at hk
def GA(s:aQ):List Int×Int:=if wW s=0 then(gX s,0)else([],wW s)
theorem U8(s:aQ)(hp:0<=s.bQ/\s.bQ<=65535):q49 FF s=some (GA s):=by
 unfold q49 GA;rw[DL FF s (by decide)];simp only[bs];by_cases h:wW s=0
 ·have hf:=R4 h hp;obtain⟨sz,nu,h1,h2,h3⟩:=Sq s hf (jk h).1;rw[nG0 (by simp[h]),pG0 h,h1];simp only[bs];rw[h2];simp only[bs];rw[h3];simp only[bs,q6s];have hl:=Qk s;rw[Mv FF (uE s) (WG hf) (by simp[uE];omega) (by simp[uE,FF];omega)];simp only[bs];rw[nG0 (by simp),R3];have hb:=wH s;rw[Cb FF _ _ (by decide) (by simp;omega)];rfl
 ·rw[pG0 (by simpa using h),nG0 h]
end Sg
end V
namespace V
namespace Sg
def gY(k:Int):List Nat:=
 if k=1∨k=19 then [2]
 else if k=6∨k=7∨k=22 then [2,2]
 else if k=18 then [1,2,2,2,2]
 else [2,2,2,2,2]
def zs:aQ:=⟨0,0,0,0,0,0,0,0,0,⟨0,0,0,0,0⟩⟩
def ks(k id:Int):aQ:=⟨k,id,0,0,0,0,0,0,0,⟨0,0,0,0,0⟩⟩
def jg(b:List Int)(at_ k:Nat):Int:=num ((b.drop at_).take k)
def eG(k id:Int)(b:List Int):aQ:=
 if k=1∨k=19 then⟨k,id,0,0,0,0,0,0,jg b 4 2,⟨0,0,0,0,0⟩⟩
 else if k=6∨k=7 then⟨k,id,0,jg b 4 2,jg b 6 2,0,0,0,0,⟨0,0,0,0,0⟩⟩
 else if k=18 then⟨k,id,0,0,0,0,0,0,0,⟨jg b 4 1,jg b 5 2,jg b 7 2,jg b 9 2,jg b 11 2⟩⟩
 else if k=20 then⟨k,id,jg b 4 2,jg b 6 2,0,jg b 8 2,jg b 10 2,jg b 12 2,0,⟨0,0,0,0,0⟩⟩
 else if k=21 then⟨k,id,0,jg b 4 2,0,jg b 6 2,jg b 8 2,jg b 10 2,jg b 12 2,⟨0,0,0,0,0⟩⟩
 else⟨k,id,0,jg b 4 2,0,0,0,jg b 6 2,0,⟨0,0,0,0,0⟩⟩
def kV(k id n:Int)(b:List Int):aQ×Int:=
 if (aJ k).Known=false then(zs,12)
 else if id=0 then(zs,5)
 else if n≠(fM (gY k):Int)then(zs,2)
 else if b.length<4+fM (gY k)then(zs,3)
 else if 4+fM (gY k)<b.length then(zs,2)
 else if wW (eG k id b)≠0 then(zs,wW (eG k id b))
 else(eG k id b,0)
def qN:List Int->aQ×Int
 | k::id::c::d::r=>kV k id (c+256*d) (k::id::c::d::r)
 | _=>(zs,3)
theorem xR{b:List Int}(hb:∀x∈b,Byte x)(at_:Nat)(k:Nat)(hk:k=1∨k=2):0<=jg b at_ k/\jg b at_ k<65536:=by
 have hm:∀x∈(b.drop at_).take k,Byte x:=fun x hx=>hb x (List.mem_of_mem_drop (List.mem_of_mem_take hx));refine⟨num_nonneg hm,?_⟩;have h1:=KZ hm;have h2:((b.drop at_).take k).length<=2:=by simp;omega
 unfold jg;generalize num ((b.drop at_).take k)=q at *;generalize ((b.drop at_).take k).length=n at *;rcases n with _ | _ | _ | n
 ·have:(256:Int)^0=1:=by decide
  rw[this]at h1;omega
 ·have:(256:Int)^(0+1)=256:=by decide
  rw[this]at h1;omega
 ·have:(256:Int)^(0+1+1)=65536:=by decide
  rw[this]at h1;omega
 ·omega
theorem Iw{k:Int}(hk:(aJ k).Known=true):qt FF k=some (jd (gY k)):=by
 rcases kinds k with rfl | rfl | rfl | rfl | rfl | rfl | rfl | rfl | h
 any_goals rfl
 obtain⟨h1,h2,h3,h4,h5,h6,h7,h8⟩:=h;simp[aJ,h1,h2,h3,h4,h5,h6,h7,h8]at hk
theorem LX(k:Int):∀n∈gY k,1<=n/\n<=8:=by
 unfold gY
 (repeat' split) <;> decide
theorem Qr(k:Int):(gY k).length<=5:=by
 unfold gY
 (repeat' split) <;> decide
theorem Ik(k:Int):fM (gY k)<=10:=by
 unfold gY
 (repeat' split) <;> decide
theorem SI(k:Int)(hk:(aJ k).Known=true):iter (fun s=>q5p FF (jd (gY k)) s.1 s.2) FF (0,0)=some (fM (gY k):Int):=by
 rcases kinds k with rfl | rfl | rfl | rfl | rfl | rfl | rfl | rfl | h
 ·kernel_rfl
 ·kernel_rfl
 ·kernel_rfl
 ·kernel_rfl
 ·kernel_rfl
 ·kernel_rfl
 ·kernel_rfl
 ·kernel_rfl
 obtain⟨h1,h2,h3,h4,h5,h6,h7,h8⟩:=h;simp[aJ,h1,h2,h3,h4,h5,h6,h7,h8]at hk
theorem fl1(id x0:Int)(h0:0<=x0/\x0<65536):qh FF (ks 1 id) [x0]=some ⟨1,id,0,0,0,0,0,0,x0,⟨0,0,0,0,0⟩⟩:=by
 have h:qh FF (ks 1 id) [x0]=some ⟨1,id,0,0,0,0,0,0,aK x0,⟨0,0,0,0,0⟩⟩:=by kernel_rfl
 rw[bP (by omega) (by omega)]at h;exact h
theorem fl6(id x0 x1:Int)(h0:0<=x0/\x0<65536)(h1:0<=x1/\x1<65536):qh FF (ks 6 id) [x0,x1]=some ⟨6,id,0,x0,x1,0,0,0,0,⟨0,0,0,0,0⟩⟩:=by
 have h:qh FF (ks 6 id) [x0,x1]=some ⟨6,id,0,kI x0,kI x1,0,0,0,0,⟨0,0,0,0,0⟩⟩:=by kernel_rfl
 rw[jq h0.1 (by omega),jq h1.1 (by omega)]at h;exact h
theorem fl7(id x0 x1:Int)(h0:0<=x0/\x0<65536)(h1:0<=x1/\x1<65536):qh FF (ks 7 id) [x0,x1]=some ⟨7,id,0,x0,x1,0,0,0,0,⟨0,0,0,0,0⟩⟩:=by
 have h:qh FF (ks 7 id) [x0,x1]=some ⟨7,id,0,kI x0,kI x1,0,0,0,0,⟨0,0,0,0,0⟩⟩:=by kernel_rfl
 rw[jq h0.1 (by omega),jq h1.1 (by omega)]at h;exact h
theorem fl18(id x0 x1 x2 x3 x4:Int)(h0:0<=x0/\x0<65536)(h1:0<=x1/\x1<65536)(h2:0<=x2/\x2<65536)(h3:0<=x3/\x3<65536)(h4:0<=x4/\x4<65536):qh FF (ks 18 id) [x0,x1,x2,x3,x4]=some ⟨18,id,0,0,0,0,0,0,0,⟨x0,x1,x2,x3,x4⟩⟩:=by
 have h:qh FF (ks 18 id) [x0,x1,x2,x3,x4]=some ⟨18,id,0,0,0,0,0,0,0,⟨aK x0,aK x1,aK x2,aK x3,aK x4⟩⟩:=by kernel_rfl
 rw[bP (by omega) (by omega),bP (by omega) (by omega),bP (by omega) (by omega),bP (by omega) (by omega),bP (by omega) (by omega)]at h;exact h
theorem fl19(id x0:Int)(h0:0<=x0/\x0<65536):qh FF (ks 19 id) [x0]=some ⟨19,id,0,0,0,0,0,0,x0,⟨0,0,0,0,0⟩⟩:=by
 have h:qh FF (ks 19 id) [x0]=some ⟨19,id,0,0,0,0,0,0,aK x0,⟨0,0,0,0,0⟩⟩:=by kernel_rfl
 rw[bP (by omega) (by omega)]at h;exact h
theorem fl20(id x0 x1 x2 x3 x4:Int)(h0:0<=x0/\x0<65536)(h1:0<=x1/\x1<65536)(h2:0<=x2/\x2<65536)(h3:0<=x3/\x3<65536)(h4:0<=x4/\x4<65536):qh FF (ks 20 id) [x0,x1,x2,x3,x4]=some ⟨20,id,x0,x1,0,x2,x3,x4,0,⟨0,0,0,0,0⟩⟩:=by
 have h:qh FF (ks 20 id) [x0,x1,x2,x3,x4]=some ⟨20,id,kI x0,kI x1,0,aK x2,aK x3,aK x4,0,⟨0,0,0,0,0⟩⟩:=by kernel_rfl
 rw[jq h0.1 (by omega),jq h1.1 (by omega),bP (by omega) (by omega),bP (by omega) (by omega),bP (by omega) (by omega)]at h;exact h
theorem fl21(id x0 x1 x2 x3 x4:Int)(h0:0<=x0/\x0<65536)(h1:0<=x1/\x1<65536)(h2:0<=x2/\x2<65536)(h3:0<=x3/\x3<65536)(h4:0<=x4/\x4<65536):qh FF (ks 21 id) [x0,x1,x2,x3,x4]=some ⟨21,id,0,x0,0,x1,x2,x3,x4,⟨0,0,0,0,0⟩⟩:=by
 have h:qh FF (ks 21 id) [x0,x1,x2,x3,x4]=some ⟨21,id,0,kI x0,0,aK x1,aK x2,aK x3,aK x4,⟨0,0,0,0,0⟩⟩:=by kernel_rfl
 rw[jq h0.1 (by omega),bP (by omega) (by omega),bP (by omega) (by omega),bP (by omega) (by omega),bP (by omega) (by omega)]at h;exact h
theorem fl22(id x0 x1:Int)(h0:0<=x0/\x0<65536)(h1:0<=x1/\x1<65536):qh FF (ks 22 id) [x0,x1]=some ⟨22,id,0,x0,0,0,0,x1,0,⟨0,0,0,0,0⟩⟩:=by
 have h:qh FF (ks 22 id) [x0,x1]=some ⟨22,id,0,kI x0,0,0,0,aK x1,0,⟨0,0,0,0,0⟩⟩:=by kernel_rfl
 rw[jq h0.1 (by omega),bP (by omega) (by omega)]at h;exact h
theorem O6{b:List Int}(hb:∀x∈b,Byte x)(k id:Int)(hk:(aJ k).Known=true):qh FF (ks k id) (fV (b.drop 4) (gY k))=some (eG k id b):=by
 have r2:=fun a=>xR hb a 2 (.inr rfl);have r1:=xR hb 4 1 (.inl rfl);rcases kinds k with rfl | rfl | rfl | rfl | rfl | rfl | rfl | rfl | h
 ·rw[show fV (b.drop 4) (gY 1)=[jg b 4 2]from by simp[fV,gY,jg]];exact fl1 id _ (r2 4)
 ·rw[show fV (b.drop 4) (gY 6)=[jg b 4 2,jg b 6 2]from by simp[fV,gY,jg]];exact fl6 id _ _ (r2 4) (r2 6)
 ·rw[show fV (b.drop 4) (gY 7)=[jg b 4 2,jg b 6 2]from by simp[fV,gY,jg]];exact fl7 id _ _ (r2 4) (r2 6)
 ·rw[show fV (b.drop 4) (gY 18)=[jg b 4 1,jg b 5 2,jg b 7 2,jg b 9 2,jg b 11 2]from by simp[fV,gY,jg]];exact fl18 id _ _ _ _ _ r1 (r2 5) (r2 7) (r2 9) (r2 11)
 ·rw[show fV (b.drop 4) (gY 19)=[jg b 4 2]from by simp[fV,gY,jg]];exact fl19 id _ (r2 4)
 ·rw[show fV (b.drop 4) (gY 20)=[jg b 4 2,jg b 6 2,jg b 8 2,jg b 10 2,jg b 12 2]from by simp[fV,gY,jg]];exact fl20 id _ _ _ _ _ (r2 4) (r2 6) (r2 8) (r2 10) (r2 12)
 ·rw[show fV (b.drop 4) (gY 21)=[jg b 4 2,jg b 6 2,jg b 8 2,jg b 10 2,jg b 12 2]from by simp[fV,gY,jg]];exact fl21 id _ _ _ _ _ (r2 4) (r2 6) (r2 8) (r2 10) (r2 12)
 ·rw[show fV (b.drop 4) (gY 22)=[jg b 4 2,jg b 6 2]from by simp[fV,gY,jg]];exact fl22 id _ _ (r2 4) (r2 6)
 ·obtain⟨h1,h2,h3,h4,h5,h6,h7,h8⟩:=h;simp[aJ,h1,h2,h3,h4,h5,h6,h7,h8]at hk
theorem Gw{x:Int}(hx:Byte x):mh .i64 (aK x) 8=x*256:=by
 obtain⟨h0,h1⟩:=hx;unfold mh;rw[wrap_i64,bP (x:=x) (by omega) (by omega),show(2:Int)^8=256 by decide,bP (by omega) (by omega)]
theorem F3{x y:Int}(hx:Byte x)(hy:Byte y):uQ .i64 (aK x) (y*256)=x+256*y:=by
 obtain⟨h0,h1⟩:=hx;obtain⟨g0,g1⟩:=hy;rw[bP (by omega) (by omega)];obtain⟨x,rfl⟩:=Int.eq_ofNat_of_zero_le h0;obtain⟨y,rfl⟩:=Int.eq_ofNat_of_zero_le g0;unfold uQ;have e:(BitVec.ofInt IntKind.i64.bits (x:Int) ||| BitVec.ofInt IntKind.i64.bits ((y:Int)*256)).toNat=x+y*256:=by
  rw[show((y:Int)*256)=((y*256:Nat):Int)from by rw[Int.natCast_mul];rfl,BitVec.toNat_or];show(BitVec.ofInt 64 (x:Int)).toNat ||| (BitVec.ofInt 64 ((y*256:Nat):Int)).toNat=_
  rw[BitVec.toNat_ofInt,BitVec.toNat_ofInt];rw[show(((x:Nat):Int)%((2^64:Nat):Int)).toNat=x from by rw[← Int.natCast_emod,Int.toNat_natCast,Nat.mod_eq_of_lt (by omega)]];rw[show(((y*256:Nat):Int)%((2^64:Nat):Int)).toNat=y*256 from by rw[← Int.natCast_emod,Int.toNat_natCast,Nat.mod_eq_of_lt (by omega)]];exact BN x y 8 (by omega)
 rw[e,wrap_i64,bP (by omega) (by omega)];omega
theorem U9(b:List Int)(hb:∀x∈b,Byte x)(hl:b.length<=1000000):q3n FF b=some (qN b):=by
 match b,hb,hl with
 | [],_,_=>rfl
 | [_],_,_=>rfl
 | [_,_],_,_=>rfl
 | [_,_,_],_,_=>rfl
 | k::id::c::d::r,hb,hl=>
   have hk:=hb k (by simp);have hid:=hb id (by simp);have hc:=hb c (by simp);have hd:=hb d (by simp);have h5:¬ (len (k::id::c::d::r)<4):=by simp only[len,lC0];omega
   have i0:idx (k::id::c::d::r) 0=some k:=(dN _ 0).trans rfl;have i1:idx (k::id::c::d::r) 1=some id:=(dN _ 1).trans rfl;have i2:idx (k::id::c::d::r) 2=some c:=(dN _ 2).trans rfl;have i3:idx (k::id::c::d::r) 3=some d:=(dN _ 3).trans rfl;unfold q3n;rw[nG0 (fun h=>h5 (of_decide_eq_true h)),i0,bs,i1,bs];show q67 FF (k::id::c::d::r) ⟨aK k,aK id,0,0,0,0,0,0,0,⟨0,0,0,0,0⟩⟩=_;rw[bP (by have:=hk.1;omega) (by have:=hk.2;omega),bP (by have:=hid.1;omega) (by have:=hid.2;omega)];unfold q67;rw[i2,bs,i3,bs,Gw hd];show q66 FF (k::id::c::d::r) (ks k id) (uQ .i64 (aK c) (d*256))=_;rw[F3 hc hd];show _=some (kV k id (c+256*d) (k::id::c::d::r));generalize hB:k::id::c::d::r=B at *;generalize c+256*d=n;have hBl:4<=B.length:=by rw[← hB];simp
   clear hB i0 i1 i2 i3 h5;unfold q66 kV;show(qt FF k).bind _=_;by_cases hkn:(aJ k).Known=true
   ·rw[Iw hkn,bs,SI k hkn,bs];unfold q65;rw[Ca];show(some (aJ k).Known).bind _=_;rw[hkn,bs,nG0 (show ¬ ((!true)=true) by decide),nG0 (show ¬ (true=false) by decide)];show(if (id==0)=true then _ else _)=_;by_cases h0:id=0
    ·rw[pG0 (by simp[h0]),pG0 h0];rfl
    rw[nG0 (by simp[h0]),nG0 h0];by_cases hn:n=(fM (gY k):Int)
    ·rw[nG0 (by simp[hn]),nG0 (show ¬ (n≠(fM (gY k):Int))from not_not_intro hn)];have hs:=lu B 4 B.length hBl (lR _);rw[List.take_length]at hs;rw[show sub B 4 (len B)=some (B.drop 4)from hs,bs];show(qt FF k).bind _=_;rw[Iw hkn,bs];have hlen:=Qr k;have hsum:=Ik k;have hbd:∀x∈B.drop 4,Byte x:=fun x hx=>hb x (List.mem_of_mem_drop hx);by_cases hsh:B.length<4+fM (gY k)
     ·rw[KD FF (B.drop 4) (gY k) (LX k) (by omega) (by unfold FF;omega) (by simp;omega),pG0 hsh];rfl
     ·rw[UZ FF (B.drop 4) (gY k) (LX k) (by omega) (by unfold FF;omega) hbd (by simp;omega) (by simp;omega),nG0 hsh,bs];unfold q78;rw[nG0 (by simp)];by_cases hlo:4+fM (gY k)<B.length
      ·rw[pG0 (by simp[len];omega),pG0 hlo];rfl
      ·rw[nG0 (by simp[len];omega),nG0 hlo];show(qh FF (ks k id) (fV (B.drop 4) (gY k))).bind _=_;rw[O6 hb k id hkn,bs,DL FF _ (by decide),bs];by_cases hch:wW (eG k id B)=0
       ·rw[nG0 (by simp[hch]),nG0 (show ¬ (wW (eG k id B)≠0)from not_not_intro hch)]
       ·rw[pG0 (by simp[hch]),pG0 hch];rfl
    ·rw[pG0 (by simpa using hn),pG0 hn];rfl
   ·have hk0:(aJ k).Known=false:=by simpa using hkn
    have:∃sz n',qt FF k=some sz/\iter (fun s=>q5p FF sz s.1 s.2) FF (0,0)=some n':=by
     rcases kinds k with rfl | rfl | rfl | rfl | rfl | rfl | rfl | rfl | h
     any_goals cases hk0
     obtain⟨h1,h2,h3,h4,h5,h6,h7,h8⟩:=h;refine⟨[2,2,2,2,2],10,?_,by kernel_rfl⟩;simp[qt,q60,q5f,h1,h2,h3,h4,h5,h6,h7,h8]
    obtain⟨sz,n',e1,e2⟩:=this;rw[e1,bs,e2,bs];unfold q65;rw[Ca];show(some (aJ k).Known).bind _=_;rw[hk0,bs,pG0 (show(!false)=true from rfl),pG0 (show false=false from rfl)];rfl
end Sg
end V
namespace V
namespace Sg
theorem Jj(x:Int):yO 2 x=[x%256,x/256%256]:=rfl
theorem leb1(x:Int):yO 1 x=[x%256]:=rfl
theorem nH{x:Int}(h:0<=x/\x<256^2):num [x%256,x/256%256]=x:=by
 rw[p2]at h;simp only[num];omega
theorem num1{x:Int}(h:0<=x/\x<256^1):num [x%256]=x:=by
 rw[p1]at h;simp only[num];omega
theorem lH(u:jF):wZ u=true↔u=⟨0,0,0,0,0⟩:=by
 obtain⟨a,b,c,d,e⟩:=u;simp[wZ]
theorem Zm{x:Int}(h:0<=x/\x<256):kP x=x:=FB h.1 h.2
theorem R6{s:aQ}(h:wW s=0)(hf:Fit s):eG s.ae s.ID (gX s)=s/\(eY s).length=fM (gY s.ae):=by
 obtain⟨h1,_,_,h4,_,_⟩:=jk h;clear h;obtain⟨k,id,p,so,de,mt,mp,cr,re,u⟩:=s;rcases kinds k with rfl | rfl | rfl | rfl | rfl | rfl | rfl | rfl | hk
 ·have e0:=nH (hf (2,re) (by simp[aZ]));simp[fq,aJ,lH]at h4;refine⟨?_,rfl⟩;simp[eG,gX,eY,aZ,jg,Jj,e0,h4]
 ·have e0:=nH (hf (2,so) (by simp[aZ]));have e1:=nH (hf (2,de) (by simp[aZ]));simp[fq,aJ,lH]at h4;refine⟨?_,rfl⟩;simp[eG,gX,eY,aZ,jg,Jj,e0,e1,h4]
 ·have e0:=nH (hf (2,so) (by simp[aZ]));have e1:=nH (hf (2,de) (by simp[aZ]));simp[fq,aJ,lH]at h4;refine⟨?_,rfl⟩;simp[eG,gX,eY,aZ,jg,Jj,e0,e1,h4]
 ·obtain⟨u1,u2,u3,u4,u5⟩:=u;have e0:=num1 (hf (1,u1) (by simp[aZ]));have e1:=nH (hf (2,u2) (by simp[aZ]));have e2:=nH (hf (2,u3) (by simp[aZ]));have e3:=nH (hf (2,u4) (by simp[aZ]));have e4:=nH (hf (2,u5) (by simp[aZ]));simp[fq,aJ,lH]at h4;refine⟨?_,rfl⟩;simp[eG,gX,eY,aZ,jg,Jj,leb1,e0,e1,e2,e3,e4,h4]
 ·have e0:=nH (hf (2,re) (by simp[aZ]));simp[fq,aJ,lH]at h4;refine⟨?_,rfl⟩;simp[eG,gX,eY,aZ,jg,Jj,e0,h4]
 ·have e0:=nH (hf (2,p) (by simp[aZ]));have e1:=nH (hf (2,so) (by simp[aZ]));have e2:=nH (hf (2,mt) (by simp[aZ]));have e3:=nH (hf (2,mp) (by simp[aZ]));have e4:=nH (hf (2,cr) (by simp[aZ]));simp[fq,aJ,lH]at h4;refine⟨?_,rfl⟩;simp[eG,gX,eY,aZ,jg,Jj,e0,e1,e2,e3,e4,h4]
 ·have e0:=nH (hf (2,so) (by simp[aZ]));have e1:=nH (hf (2,mt) (by simp[aZ]));have e2:=nH (hf (2,mp) (by simp[aZ]));have e3:=nH (hf (2,cr) (by simp[aZ]));have e4:=nH (hf (2,re) (by simp[aZ]));simp[fq,aJ,lH]at h4;refine⟨?_,rfl⟩;simp[eG,gX,eY,aZ,jg,Jj,e0,e1,e2,e3,e4,h4]
 ·have e0:=nH (hf (2,so) (by simp[aZ]));have e1:=nH (hf (2,cr) (by simp[aZ]));simp[fq,aJ,lH]at h4;refine⟨?_,rfl⟩;simp[eG,gX,eY,aZ,jg,Jj,e0,e1,h4]
 ·obtain⟨g1,g2,g3,g4,g5,g6,g7,g8⟩:=hk;simp[aJ,g1,g2,g3,g4,g5,g6,g7,g8]at h1
theorem xV{k:Int}(hk:(aJ k).Known=true):0<=k/\k<256:=by
 rcases kinds k with rfl | rfl | rfl | rfl | rfl | rfl | rfl | rfl | h
 any_goals decide
 obtain⟨g1,g2,g3,g4,g5,g6,g7,g8⟩:=h;simp[aJ,g1,g2,g3,g4,g5,g6,g7,g8]at hk
theorem Lj{s:aQ}(h:wW s=0):gX s=s.ae::s.ID::((eY s).length:Int)::0::eY s:=by
 obtain⟨h1,h2,h3,_⟩:=jk h;have:=wH s;unfold gX;rw[Zm (xV h1),Zm (by omega),Zm (by omega)];rfl
theorem nX{s:aQ}(h:wW s=0)(hp:0<=s.bQ/\s.bQ<=65535):qN (gX s)=(s,0):=by
 obtain⟨e1,e2⟩:=R6 h (R4 h hp);obtain⟨h1,h2,h3,_⟩:=jk h;rw[Lj h]at e1 ⊢;show kV s.ae s.ID (((eY s).length:Int)+256*0) _=_;unfold kV;rw[e1,nG0 (by simp[h1]),nG0 (show ¬ (s.ID=0) by omega),nG0 (show ¬ (((eY s).length:Int)+256*0≠(fM (gY s.ae):Int))from not_not_intro (by rw[e2];omega)),
  nG0 (by simp only[lC0];omega),nG0 (by simp only[lC0];omega),nG0 (not_not_intro h)]
theorem O9{s:aQ}(h:wW s=0):∀x∈gX s,Byte x:=by
 obtain⟨h1,h2,h3,_⟩:=jk h;have hb:=wH s;rw[Lj h];intro x hx;have hk:=xV h1;simp only[List.mem_cons]at hx;rcases hx with rfl | rfl | rfl | rfl | hx
 ·exact hk
 ·exact⟨by omega,by omega⟩
 ·exact⟨by omega,by omega⟩
 ·exact⟨by decide,by decide⟩
 ·unfold eY at hx;obtain⟨l,hl,hx⟩:=List.mem_flatten.1 hx;obtain⟨q,_,rfl⟩:=List.mem_map.1 hl;exact vS _ _ x hx
theorem dW{x y:Int}(hx:Byte x)(hy:Byte y):yO 2 (num [x,y])=[x,y]:=by
 have:=Gp (l:=[x,y]) (by simp[hx,hy]);exact this
theorem Tn{x:Int}(hx:Byte x):yO 1 (num [x])=[x]:=by
 have:=Gp (l:=[x]) (by simp[hx]);exact this
theorem Pj(k id c d:Int)(r:List Int)(hb:∀x∈r,Byte x)(hk:(aJ k).Known=true)(hr:r.length=fM (gY k)):eY (eG k id (k::id::c::d::r))=r:=by
 rcases kinds k with rfl | rfl | rfl | rfl | rfl | rfl | rfl | rfl | h
 ·match r,hr,hb with
  | [x0,x1],_,hb=>
    have e0:=dW (hb x0 (by simp)) (hb x1 (by simp));simp[eG,eY,aZ,jg,e0]
 ·match r,hr,hb with
  | [x0,x1,x2,x3],_,hb=>
    have e0:=dW (hb x0 (by simp)) (hb x1 (by simp));have e1:=dW (hb x2 (by simp)) (hb x3 (by simp));simp[eG,eY,aZ,jg,e0,e1]
 ·match r,hr,hb with
  | [x0,x1,x2,x3],_,hb=>
    have e0:=dW (hb x0 (by simp)) (hb x1 (by simp));have e1:=dW (hb x2 (by simp)) (hb x3 (by simp));simp[eG,eY,aZ,jg,e0,e1]
 ·match r,hr,hb with
  | [x0,x1,x2,x3,x4,x5,x6,x7,x8],_,hb=>
    have e0:=Tn (hb x0 (by simp));have e1:=dW (hb x1 (by simp)) (hb x2 (by simp));have e2:=dW (hb x3 (by simp)) (hb x4 (by simp));have e3:=dW (hb x5 (by simp)) (hb x6 (by simp));have e4:=dW (hb x7 (by simp)) (hb x8 (by simp));simp[eG,eY,aZ,jg,e0,e1,e2,e3,e4]
 ·match r,hr,hb with
  | [x0,x1],_,hb=>
    have e0:=dW (hb x0 (by simp)) (hb x1 (by simp));simp[eG,eY,aZ,jg,e0]
 ·match r,hr,hb with
  | [x0,x1,x2,x3,x4,x5,x6,x7,x8,x9],_,hb=>
    have e0:=dW (hb x0 (by simp)) (hb x1 (by simp));have e1:=dW (hb x2 (by simp)) (hb x3 (by simp));have e2:=dW (hb x4 (by simp)) (hb x5 (by simp));have e3:=dW (hb x6 (by simp)) (hb x7 (by simp));have e4:=dW (hb x8 (by simp)) (hb x9 (by simp));simp[eG,eY,aZ,jg,e0,e1,e2,e3,e4]
 ·match r,hr,hb with
  | [x0,x1,x2,x3,x4,x5,x6,x7,x8,x9],_,hb=>
    have e0:=dW (hb x0 (by simp)) (hb x1 (by simp));have e1:=dW (hb x2 (by simp)) (hb x3 (by simp));have e2:=dW (hb x4 (by simp)) (hb x5 (by simp));have e3:=dW (hb x6 (by simp)) (hb x7 (by simp));have e4:=dW (hb x8 (by simp)) (hb x9 (by simp));simp[eG,eY,aZ,jg,e0,e1,e2,e3,e4]
 ·match r,hr,hb with
  | [x0,x1,x2,x3],_,hb=>
    have e0:=dW (hb x0 (by simp)) (hb x1 (by simp));have e1:=dW (hb x2 (by simp)) (hb x3 (by simp));simp[eG,eY,aZ,jg,e0,e1]
 ·obtain⟨g1,g2,g3,g4,g5,g6,g7,g8⟩:=h;simp[aJ,g1,g2,g3,g4,g5,g6,g7,g8]at hk
theorem O7(k id:Int)(b:List Int):(eG k id b).ae=k/\(eG k id b).ID=id:=by
 unfold eG
 (repeat' split) <;> exact⟨rfl,rfl⟩
theorem R5{b:List Int}(hb:∀x∈b,Byte x)(k id:Int):0<=(eG k id b).bQ/\(eG k id b).bQ<=65535:=by
 have r2:=xR hb 4 2 (.inr rfl);unfold eG
 (repeat' split) <;> first | exact⟨Int.le_refl 0,(by decide:(0:Int)<=65535)⟩ | exact⟨r2.1,by show jg b 4 2<=_;omega⟩
theorem Pd(b:List Int)(hb:∀x∈b,Byte x):((qN b).1=zs/\(qN b).2≠0)∨((qN b).2=0/\wW (qN b).1=0/\(0<=(qN b).1.bQ/\(qN b).1.bQ<=65535)/\gX (qN b).1=b):=by
 match b,hb with
 | [],_=>exact .inl ⟨rfl,show(3:Int)≠0 by decide⟩
 | [_],_=>exact .inl ⟨rfl,show(3:Int)≠0 by decide⟩
 | [_,_],_=>exact .inl ⟨rfl,show(3:Int)≠0 by decide⟩
 | [_,_,_],_=>exact .inl ⟨rfl,show(3:Int)≠0 by decide⟩
 | k::id::c::d::r,hb=>
   show((kV k id (c+256*d) (k::id::c::d::r)).1=zs/\(kV k id (c+256*d) (k::id::c::d::r)).2≠0)∨((kV k id (c+256*d) (k::id::c::d::r)).2=0/\wW (kV k id (c+256*d) (k::id::c::d::r)).1=0/\(0<=(kV k id (c+256*d) (k::id::c::d::r)).1.bQ/\(kV k id (c+256*d) (k::id::c::d::r)).1.bQ<=65535)/\gX (kV k id (c+256*d) (k::id::c::d::r)).1=k::id::c::d::r);have hc:=hb c (by simp);have hd:=hb d (by simp);have hbr:∀x∈r,Byte x:=fun x hx=>hb x (by simp[hx]);have hps:=R5 hb k id;have hfh:=O7 k id (k::id::c::d::r);have hbf:=fun hk hr=>Pj k id c d r hbr hk hr;have hlen:(k::id::c::d::r).length=4+r.length:=by simp only[lC0];omega
   have hsum:=Ik k;unfold kV;generalize hS:eG k id (k::id::c::d::r)=S at *;rw[hlen];by_cases h1:(aJ k).Known=false
   ·rw[pG0 h1];exact .inl ⟨rfl,show(12:Int)≠0 by decide⟩
   rw[nG0 h1];by_cases h2:id=0
   ·rw[pG0 h2];exact .inl ⟨rfl,show(5:Int)≠0 by decide⟩
   rw[nG0 h2];by_cases h3:c+256*d=(fM (gY k):Int)
   ·rw[nG0 (not_not_intro h3)];by_cases h4:4+r.length<4+fM (gY k)
    ·rw[pG0 h4];exact .inl ⟨rfl,show(3:Int)≠0 by decide⟩
    rw[nG0 h4];by_cases h5:4+fM (gY k)<4+r.length
    ·rw[pG0 h5];exact .inl ⟨rfl,show(2:Int)≠0 by decide⟩
    rw[nG0 h5];by_cases h6:wW S=0
    ·rw[nG0 (not_not_intro h6)];refine .inr ⟨rfl,h6,hps,?_⟩;show gX S=_;have hr:r.length=fM (gY k):=by omega
     have hd0:d=0:=by have:=hc.1;have:=hc.2;have:=hd.1;omega
     rw[Lj h6,hfh.1,hfh.2,hbf (by simpa using h1) hr,hd0,show((r.length:Nat):Int)=c from by omega]
    ·rw[pG0 h6];exact .inl ⟨rfl,h6⟩
   ·rw[pG0 h3];exact .inl ⟨rfl,show(2:Int)≠0 by decide⟩
end Sg
end V
namespace V
theorem ff:10000000000<FF:=by decide
theorem jU:∀(l m:List Int),l.Nodup->(∀x∈l,x∈m)->l.length<=m.length
 | [],_,_,_=>by simp
 | x::l,m,hn,hs=>by
   rw[List.nodup_cons]at hn;have hx:=hs x (by simp);have h1:=jU l (m.erase x) hn.2 fun y hy=>by
    have hne:y≠x:=fun e=>hn.1 (e▸hy);exact(List.mem_erase_of_ne hne).2 (hs y (by simp[hy]))
   rw[List.length_erase_of_mem hx]at h1;have h2:0<m.length:=List.length_pos_of_mem hx;rw[lC0];omega
def tK(l:List Int)(v:Int):List Int:=if l.any (fun x=>v==x)=true then l else l++[v]
theorem J4(l:List Int)(v w:Int):w∈tK l v↔w∈l∨w=v:=by
 unfold tK;split
 ·rename_i h;rw[List.any_eq_true]at h;obtain⟨x,hx,he⟩:=h;have:v=x:=by simpa using he
  subst this;constructor
  ·exact .inl
  ·rintro(h | rfl)
   ·exact h
   ·exact hx
 ·simp
theorem CK{l:List Int}(h:l.Nodup)(v:Int):(tK l v).Nodup:=by
 unfold tK;split
 ·exact h
 ·rename_i hn;rw[List.nodup_append];refine⟨h,by simp,fun a ha b hb e=>hn ?_⟩;rw[mS]at hb;rw[List.any_eq_true];exact⟨a,ha,by simp[e,hb]⟩
theorem J5(l:List Int)(v:Int):(tK l v).length<=l.length+1:=by
 unfold tK;split <;> simp
def pK(l:List Int)(cs:List aT):List Int:=cs.foldl (fun l c=>tK l c.ap) l
def pQ(l:List Int)(as:List aQ):List Int:=as.foldl (fun l s=>if (s.ae==20||s.ae==6)=true then tK l s.am else l) l
theorem pJ:∀(cs:List aT) (l:List Int),l.Nodup->(pK l cs).Nodup/\(pK l cs).length<=l.length+cs.length/\∀w,w∈pK l cs↔w∈l∨∃c∈cs,c.ap=w
 | [],l,h=>⟨h,by simp[pK],fun w=>by simp[pK]⟩
 | c::cs,l,h=>by
   obtain⟨h1,h2,h3⟩:=pJ cs (tK l c.ap) (CK h _);have e:pK l (c::cs)=pK (tK l c.ap) cs:=rfl;rw[e];refine⟨h1,by have:=J5 l c.ap;rw[lC0];omega,fun w=>?_⟩;rw[h3,J4];constructor
   ·rintro((h | rfl) | ⟨c',hc,rfl⟩)
    ·exact .inl h
    ·exact .inr ⟨c,by simp,rfl⟩
    ·exact .inr ⟨c',by simp[hc],rfl⟩
   ·rintro(h | ⟨c',hc,rfl⟩)
    ·exact .inl (.inl h)
    ·rcases List.mem_cons.1 hc with rfl | hc
     ·exact .inl (.inr rfl)
     ·exact .inr ⟨c',hc,rfl⟩
theorem pO:∀(as:List aQ) (l:List Int),l.Nodup->(pQ l as).Nodup/\(pQ l as).length<=l.length+as.length/\∀w,w∈pQ l as↔w∈l∨∃s∈as,(s.ae=20∨s.ae=6)/\s.am=w
 | [],l,h=>⟨h,by simp[pQ],fun w=>by simp[pQ]⟩
 | s::as,l,h=>by
   by_cases hk:(s.ae==20||s.ae==6)=true
   ·obtain⟨h1,h2,h3⟩:=pO as (tK l s.am) (CK h _);have e:pQ l (s::as)=pQ (tK l s.am) as:=by unfold pQ;rw[List.foldl_cons,pG0 hk]
    rw[e];have hk2:s.ae=20∨s.ae=6:=by simpa using hk
    refine⟨h1,by have:=J5 l s.am;rw[lC0];omega,fun w=>?_⟩;rw[h3,J4];constructor
    ·rintro((h | rfl) | ⟨c',hc,hq⟩)
     ·exact .inl h
     ·exact .inr ⟨s,by simp,hk2,rfl⟩
     ·exact .inr ⟨c',by simp[hc],hq⟩
    ·rintro(h | ⟨c',hc,hq⟩)
     ·exact .inl (.inl h)
     ·rcases List.mem_cons.1 hc with rfl | hc
      ·exact .inl (.inr hq.2.symm)
      ·exact .inr ⟨c',hc,hq⟩
   ·obtain⟨h1,h2,h3⟩:=pO as l h;have e:pQ l (s::as)=pQ l as:=by unfold pQ;rw[List.foldl_cons,nG0 hk]
    rw[e];have hk2:¬ (s.ae=20∨s.ae=6):=by simpa using hk
    refine⟨h1,by rw[lC0];omega,fun w=>?_⟩;rw[h3];constructor
    ·rintro(h | ⟨c',hc,hq⟩)
     ·exact .inl h
     ·exact .inr ⟨c',by simp[hc],hq⟩
    ·rintro(h | ⟨c',hc,hq⟩)
     ·exact .inl h
     ·rcases List.mem_cons.1 hc with rfl | hc
      ·exact absurd hq.1 hk2
      ·exact .inr ⟨c',hc,hq⟩
def bR(m:aI)(l:Int):Bool:=m.aB.any fun s=>(s.ae==6)&&(s.am==l)
def Xg(m:aI)(k l:Int):Bool:=m.aB.any fun s=>(s.ae==k)&&(s.am==l)
def BS(m:aI)(mq:Int):Int:=fidx (fun c:aT=>c.ap==mq) m.aj
def FU(m:aI)(mq:Int):Int:=fidx (fun c:aT=>c.ax==mq) m.aj
def gL(m:aI)(mq:Int):Bool:=(m.aj.any (fun c=>c.ap==mq)||Xg m 20 mq)||Xg m 6 mq
def oF:List Int:=(List.range 64).map fun(i:Nat)=>64+(i:Int)
def gB(m:aI):Nat:=(oF.filter (gL m)).length
def mW(m:aI):Int:=(oF.find? fun v=>!gL m v).getD 0
theorem uK:oF.Nodup:=by
 unfold oF List.Nodup;rw[List.pairwise_map];exact List.pairwise_lt_range.imp fun h=>by omega
theorem Cx(v:Int):v∈oF↔64<=v/\v<=127:=by
 unfold oF;rw[List.mem_map];constructor
 ·rintro⟨i,hi,rfl⟩;rw[List.mem_range]at hi;omega
 ·intro h;exact⟨(v-64).toNat,by rw[List.mem_range];omega,by omega⟩
theorem dS(m:aI)(v:Int):gL m v=true↔(∃c∈m.aj,c.ap=v)∨∃s∈m.aB,(s.ae=20∨s.ae=6)/\s.am=v:=by
 unfold gL Xg;simp only[Bool.or_eq_true,List.any_eq_true,Bool.and_eq_true,beq_iff_eq];constructor
 ·rintro((h | ⟨s,hs,h1,h2⟩) | ⟨s,hs,h1,h2⟩)
  ·exact .inl h
  ·exact .inr ⟨s,hs,.inl h1,h2⟩
  ·exact .inr ⟨s,hs,.inr h1,h2⟩
 ·rintro(h | ⟨s,hs,h1 | h1,h2⟩)
  ·exact .inl (.inl h)
  ·exact .inl (.inr ⟨s,hs,h1,h2⟩)
  ·exact .inr ⟨s,hs,h1,h2⟩
def rC(m:aI):List Int:=pQ (pK [] m.aj) m.aB
theorem yF(m:aI):(rC m).Nodup/\(rC m).length<=m.aj.length+m.aB.length/\∀w,w∈rC m↔gL m w=true:=by
 obtain⟨a1,a2,a3⟩:=pJ m.aj [] (by simp);obtain⟨b1,b2,b3⟩:=pO m.aB _ a1;refine⟨b1,by simp at a2;unfold rC;omega,fun w=>?_⟩;show w∈pQ (pK [] m.aj) m.aB↔_;rw[b3,a3,dS];simp
def CU(m:aI):Prop:=(∀c∈m.aj,64<=c.ap/\c.ap<=127)/\∀s∈m.aB,(s.ae=20∨s.ae=6)->64<=s.am/\s.am<=127
theorem EM{m:aI}(h:CU m){v:Int}(hv:gL m v=true):64<=v/\v<=127:=by
 rcases(dS m v).1 hv with⟨c,hc,rfl⟩ | ⟨s,hs,hk,rfl⟩
 ·exact h.1 c hc
 ·exact h.2 s hs hk
theorem NI{m:aI}(h:CU m):(rC m).length=gB m:=by
 obtain⟨b1,_,b3⟩:=yF m;unfold gB;apply Nat.le_antisymm
 ·refine jU _ _ b1 fun x hx=>?_;have hx2:=(b3 x).1 hx;rw[List.mem_filter];exact⟨(Cx x).2 (EM h hx2),hx2⟩
 ·refine jU _ _ (uK.filter _) fun x hx=>?_;rw[List.mem_filter]at hx;exact(b3 x).2 hx.2
theorem jr{m:aI}(h:gB m<64):∃v,oF.find? (fun v=>!gL m v)=some v/\mW m=v/\gL m v=false/\64<=v/\v<=127:=by
 cases hf:oF.find? (fun v=>!gL m v)with
 | none=>
   exfalso;rw[List.find?_eq_none]at hf;have:oF.filter (gL m)=oF:=by
    rw[List.filter_eq_self];intro a ha;simpa using hf a ha
   unfold gB at h;rw[this]at h;simp[oF]at h
 | some v=>
   have h1:=List.find?_some hf;have h2:=List.mem_of_find?_eq_some hf;refine⟨v,rfl,?_,by simpa using h1,(Cx v).1 h2⟩;unfold mW;rw[hf];rfl
def after(n:Int):Int:=if n≥255 then 1 else n+1
def PZ:Nat->Int->Int
 | 0,n=>n
 | k+1,n=>PZ k (after n)
def Dh(A:List aQ):Nat->Int->Int
 | 0,n=>n
 | k+1,n=>if A.any (fun s=>s.ID==n)=true then Dh A k (after n)else n
def uy(m:aI):Int:=Dh m.aB 255 m.bX
theorem yB{n:Int}(h:1<=n/\n<=255):1<=after n/\after n<=255:=by unfold after;split <;> omega
theorem TS:∀(k:Nat) (n:Int),1<=n/\n<=255->PZ k n=(n-1+k)%255+1
 | 0,n,h=>by unfold PZ;omega
 | k+1,n,h=>by
   unfold PZ;rw[TS k (after n) (yB h)];unfold after;split <;> omega
theorem BL(A:List aQ)(n:Int)(hn:1<=n/\n<=255)(hA:A.length<255):∃j,j<255/\A.any (fun s=>s.ID==PZ j n)=false:=by
 apply Classical.byContradiction;intro hno;have hall:∀j,j<255->∃s∈A,s.ID=PZ j n:=fun j hj=>by
  have h1:A.any (fun s=>s.ID==PZ j n)=true:=by
   cases hb:A.any (fun s=>s.ID==PZ j n)with
   | true=>rfl
   | false=>exact absurd ⟨j,hj,hb⟩ hno
  rw[List.any_eq_true]at h1;obtain⟨s,hs,he⟩:=h1;exact⟨s,hs,by simpa using he⟩
 have hnd:((List.range 255).map fun(i:Nat)=>(i:Int)+1).Nodup:=by
  unfold List.Nodup;rw[List.pairwise_map];exact List.pairwise_lt_range.imp fun h=>by omega
 have hlen:=jU _ (A.map (·.ID)) hnd fun v hv=>by
  rw[List.mem_map]at hv;obtain⟨i,hi,rfl⟩:=hv;rw[List.mem_range]at hi;obtain⟨s,hs,he⟩:=hall (((i:Int)+255-(n-1))%255).toNat (by omega);rw[List.mem_map];refine⟨s,hs,?_⟩;rw[he,TS _ _ hn];omega
 simp at hlen;omega
theorem vK(A:List aQ):∀(k:Nat) (n:Int),1<=n/\n<=255->1<=Dh A k n/\Dh A k n<=255
 | 0,n,h=>h
 | k+1,n,h=>by
   unfold Dh;split
   ·exact vK A k _ (yB h)
   ·exact h
theorem ED(A:List aQ):∀(k:Nat) (n:Int),(∃j,j<k/\A.any (fun s=>s.ID==PZ j n)=false)->A.any (fun s=>s.ID==Dh A k n)=false
 | 0,n,⟨j,hj,_⟩=>by omega
 | k+1,n,⟨j,hj,hb⟩=>by
   unfold Dh;split
   ·rename_i h;cases j with
    | zero=>rw[PZ]at hb;rw[hb]at h;cases h
    | succ j=>exact ED A k _ ⟨j,by omega,hb⟩
   ·rename_i h;simpa using h
def qd(m:aI)(mq:Int)(b:List Int):aI:={ m with Out:=m.Out++[⟨mq,b⟩] }
def jR(m:aI)(s:aQ):aI:=qd m 5 (Sg.gX s)
def j5(m:aI):aI:={ m with bX:=after (uy m) }
def fK(s:aQ)(n:Int):aQ:={ s with ID:=n }
def nk(m:aI)(s:aQ):aI:={ jR (j5 m) (fK s (uy m))with aB:=m.aB++[fK s (uy m)] }
def lX(m:aI)(c:aT):aI:=if bR m c.ap=true then m else nk m ⟨6,0,0,c.ap,c.ax,0,0,0,0,⟨0,0,0,0,0⟩⟩
def gD(m:aI)(i:Nat)(c:aT):aI:={ m with aj:=m.aj.set i c }
def wm(x:bM)(m:aI):bM:={ x with aC:=m }
def lV(s:aQ):Prop:=Sg.wW s=0/\0<=s.bQ/\s.bQ<=65535
end V
namespace V
theorem jW:FF=1125899906842624:=rfl
theorem LA{b:Bool}(h:¬ b=true):(!b)=true:=by cases b <;> simp_all
theorem WJ(l:List aQ)(c:aT)(hl:l.length<=1000000):q4a FF l c=some (l.any (fun s=>(s.ae==6)&&(s.am==c.ap)),c):=by
 unfold q4a q5i;have k:=kZ (F:=FF) (body:=fun s:aT×Int=>Yg FF l s.1 s.2) (l:=l) (p:=fun s=>(s.ae==6)&&(s.am==c.ap)) (c:=c) (g:=fun i=>(i,c)) (fun i x hx=>by
  have hlt:=(gS.1 hx).1;show Yg FF l _ _=_;unfold Yg q5h;rw[pG0 (by simp[len];omega),bg hx];simp only[bs,wN i (by omega)];split <;> rfl) (by
  show Yg FF l _ _=_;unfold Yg;rw[nG0 (by simp[len])]) (by rw[jW];omega)
 rw[k,← rX];unfold fidx;cases l.findIdx? (fun s=>(s.ae==6)&&(s.am==c.ap)) <;> rfl
theorem WI(l:List aQ)(n:Int)(hl:l.length<=1000000):q45 FF l n=some (l.any (fun s=>s.ID==n),n):=by
 unfold q45 q5e;have k:=kZ (F:=FF) (body:=fun s:Int×Int=>Yl FF l s.1 s.2) (l:=l) (p:=fun s=>s.ID==n) (c:=n) (g:=fun i=>(i,n)) (fun i x hx=>by
  have hlt:=(gS.1 hx).1;show Yl FF l _ _=_;unfold Yl q5d;rw[pG0 (by simp[len];omega),bg hx];simp only[bs,wN i (by omega)];split <;> rfl) (by
  show Yl FF l _ _=_;unfold Yl;rw[nG0 (by simp[len])]) (by rw[jW];omega)
 rw[k,← rX];unfold fidx;cases l.findIdx? (fun s=>s.ID==n) <;> rfl
theorem Ce{α β:Type}{body:Int->Option (Out Int (Sum Unit β))}{l:List α}{p:α->Bool}{g:Int->β}(h:∀(i:Nat) x,l[i]? = some x->body (i:Int)=some (if p x=true then .done (.inr (g (i:Int)))else .next ((i+1:Nat):Int)))(he:body (l.length:Int)=some (.done (.inl ())))
 {F:Nat} (hF:l.length<F):iter body F 0=some (match l.findIdx? p with
  | some i=>.inr (g (i:Int))
  | none=>.inl ()):=by
 have key:∀(m:List α) (F k:Nat),l.drop k=m->k<=l.length->m.length<F->iter body F (k:Int)=some (match m.findIdx? p with
  | some i=>.inr (g ((k+i:Nat):Int))
  | none=>.inl ()):=by
  intro m
  induction m with
  | nil=>
    intro F k hd hk hF;have hk2:k=l.length:=by
     have:=congrArg List.length hd;rw[List.length_drop,List.length_nil]at this;omega
    subst hk2;cases F with
    | zero=>simp at hF
    | succ F=>rw[aX he];rfl
  | cons x m ih=>
    intro F k hd hk hF;have hx:l[k]? = some x:=by
     have:=congrArg (fun z:List α=>z[0]?) hd;simpa using this
    have hlt:=(gS.1 hx).1;have hd2:l.drop (k+1)=m:=by
     have:=congrArg List.tail hd;simpa using this
    have hb:=h k x hx;cases F with
    | zero=>simp at hF
    | succ F=>
      rw[List.findIdx?_cons];by_cases hp:p x=true
      ·rw[pG0 hp]at hb;rw[aX hb,pG0 hp];simp
      ·rw[nG0 hp]at hb;rw[bU hb,ih F (k+1) hd2 hlt (by simp at hF;omega),nG0 hp];cases m.findIdx? p with
       | none=>rfl
       | some i=>
         simp only[Option.map_some];rw[show k+1+i=k+(i+1) by omega]
 have:=key l F 0 (by simp) (by omega) hF;rw[show((0:Nat):Int)=0 from rfl]at this;rw[this];cases l.findIdx? p with
 | none=>rfl
 | some i=>simp
theorem abp(l:List aQ)(hl:l.length<=1000000):q53 FF l=some (l.any fun s=>s.ae==18):=by
 unfold q53 q5v;have k:=Ce (F:=FF) (body:=fun s=>Ya FF l s) (l:=l) (p:=fun s=>s.ae==18) (g:=fun i=>i) (fun i x hx=>by
  have hlt:=(gS.1 hx).1;show Ya FF l _=_;unfold Ya q5u;rw[pG0 (by simp[len];omega),bg hx];simp only[bs,wN i (by omega)];split <;> rfl) (by
  show Ya FF l _=_;unfold Ya;rw[nG0 (by simp[len])]) (by rw[jW];omega)
 rw[k,← rX];unfold fidx;cases l.findIdx? (fun s=>s.ae==18) <;> rfl
theorem aaq(l:List aT)(n:Int)(hl:l.length<=1000000):q4i FF l n=some (fidx (fun c=>c.ap==n) l,n):=by
 unfold q4i fidx;have k:=kZ (F:=FF) (body:=fun s:Int×Int=>Ye FF l s.1 s.2) (l:=l) (p:=fun c=>c.ap==n) (c:=n) (g:=fun i=>(i,n)) (fun i x hx=>by
  have hlt:=(gS.1 hx).1;show Ye FF l _ _=_;unfold Ye q5o;rw[pG0 (by simp[len];omega),bg hx];simp only[bs,wN i (by omega)];split <;> rfl) (by
  show Ye FF l _ _=_;unfold Ye;rw[nG0 (by simp[len])]) (by rw[jW];omega)
 rw[k];cases l.findIdx? (fun c:aT=>c.ap==n) <;> rfl
theorem Z6(l:List aT)(n:Int)(hl:l.length<=1000000):q4s FF l n=some (fidx (fun c=>c.ax==n) l,n):=by
 unfold q4s fidx;have k:=kZ (F:=FF) (body:=fun s:Int×Int=>q2z FF l s.1 s.2) (l:=l) (p:=fun c=>c.ax==n) (c:=n) (g:=fun i=>(i,n)) (fun i x hx=>by
  have hlt:=(gS.1 hx).1;show q2z FF l _ _=_;unfold q2z q5s;rw[pG0 (by simp[len];omega),bg hx];simp only[bs,wN i (by omega)];split <;> rfl) (by
  show q2z FF l _ _=_;unfold q2z;rw[nG0 (by simp[len])]) (by rw[jW];omega)
 rw[k];cases l.findIdx? (fun c:aT=>c.ax==n) <;> rfl
theorem SS(l:List Int)(v:Int)(hl:l.length<=10000000):q2b FF l v=some (l.any fun x=>v==x):=by
 unfold q2b q5c;have k:=Ce (F:=FF) (body:=fun s=>Yn FF l v s) (l:=l) (p:=fun x=>v==x) (g:=fun i=>i) (fun i x hx=>by
  have hlt:=(gS.1 hx).1;show Yn FF l v _=_;unfold Yn;rw[pG0 (by simp[len];omega),bg hx];simp only[bs,wN i (by omega)];split <;> rfl) (by
  show Yn FF l v _=_;unfold Yn;rw[nG0 (by simp[len])]) (by rw[jW];omega)
 rw[k,← rX];unfold fidx;cases l.findIdx? (fun x=>v==x) <;> rfl
theorem ng(x:bM)(c:aT)(h:x.aC.aB.length<=1000000):qu FF x c=some (bR x.aC c.ap):=by
 unfold qu;rw[WJ _ c h];rfl
theorem vP(x:bM)(n:Int)(h:x.aC.aj.length<=1000000):q15 FF x n=some (BS x.aC n):=by
 unfold q15;rw[aaq _ n h];rfl
theorem xL(x:bM)(n:Int)(h:x.aC.aj.length<=1000000):q1j FF x n=some (FU x.aC n):=by
 unfold q1j;rw[Z6 _ n h];rfl
theorem H8(l:List Int)(v:Int)(hl:l.length<=5000000):q2c FF v l=some (tK l v):=by
 unfold q2c tK;rw[SS l v (by omega),bs];by_cases h:l.any (fun x=>v==x)=true
 ·rw[nG0 (by simp[h]),pG0 h]
 ·rw[pG0 (LA h),nG0 h,dV (by simp;omega) (by omega)];rfl
theorem NJ(l:List Int)(cs:List aT)(c:aT):pK l (cs++[c])=tK (pK l cs) c.ap:=by simp[pK]
theorem NK(l:List Int)(as:List aQ)(s:aQ):pQ l (as++[s])=if (s.ae==20||s.ae==6)=true then tK (pQ l as) s.am else pQ l as:=by
 unfold pQ;rw[List.foldl_append];rfl
theorem FD(x:bM)(h1:x.aC.aj.length<=1000000)(h2:x.aC.aB.length<=1000000):q44 FF x=some (rC x.aC):=by
 unfold q44;have k:=dZ (body:=fun s:List Int×Int=>VI FF x s.1 s.2) (fun i=>(pK [] (x.aC.aj.take i),(i:Int))) x.aC.aj.length (pK [] x.aC.aj) (fun i hi=>by
  have hx:x.aC.aj[i]? = some x.aC.aj[i]:=gE hi;have hln:=(pJ (x.aC.aj.take i) [] (by simp)).2.1;rw[lT0]at hln;show VI FF x (pK [] (x.aC.aj.take i)) (i:Int)=_;unfold VI;rw[pG0 (by simp[len];omega),bg hx,bs,H8 _ _ (by simp at hln;omega)];simp only[bs,wN i (by omega)];rw[← jc hx,NJ]) (by
  show VI FF x _ _=_;unfold VI;rw[nG0 (by simp[len]),List.take_length]) FF 0 (by omega) (by rw[jW];omega)
 rw[List.take_zero,show((0:Nat):Int)=0 from rfl]at k;have k':iter (fun s:List Int×Int=>VI FF x s.1 s.2) FF ([],0)=some (pK [] x.aC.aj):=k;rw[k',bs];unfold q6k;have hC:=(pJ x.aC.aj [] (by simp));have k2:=dZ (body:=fun s:List Int×Int=>VJ FF x s.1 s.2) (fun i=>(pQ (pK [] x.aC.aj) (x.aC.aB.take i),(i:Int))) x.aC.aB.length (rC x.aC) (fun i hi=>by
  have hx:x.aC.aB[i]? = some x.aC.aB[i]:=gE hi;have hln:=(pO (x.aC.aB.take i) _ hC.1).2.1;have hC2:=hC.2.1;rw[lT0]at hln;show VJ FF x (pQ (pK [] x.aC.aj) (x.aC.aB.take i)) (i:Int)=_;unfold VJ q5z;rw[pG0 (by simp[len];omega),bg hx,bs,← jc hx,NK];by_cases hk:(x.aC.aB[i].ae==20||x.aC.aB[i].ae==6)=true
  ·rw[pG0 hk,pG0 hk,H8 _ _ (by simp at hC2;omega)];simp only[bs,wN i (by omega)]
  ·rw[nG0 hk,nG0 hk,wN i (by omega)]) (by
  show VJ FF x _ _=_;unfold VJ;rw[nG0 (by simp[len]),List.take_length];rfl) FF 0 (by omega) (by rw[jW];omega)
 rw[List.take_zero,show((0:Nat):Int)=0 from rfl]at k2;have k2':iter (fun s:List Int×Int=>VJ FF x s.1 s.2) FF (pK [] x.aC.aj,0)=some (rC x.aC):=k2;rw[k2'];rfl
theorem MX(x:bM)(h1:x.aC.aj.length<=1000000)(h2:x.aC.aB.length<=1000000)(hc:CU x.aC):q1c FF x=some (if gB x.aC<16 then mW x.aC else 0,decide (gB x.aC<16)):=by
 unfold q1c;rw[FD x h1 h2,bs];have hl:=NI hc;by_cases h16:gB x.aC<16
 ·rw[nG0 (df (show ¬ (len (rC x.aC)≥16) by rw[lN];omega)),pG0 h16,dt h16];obtain⟨v,f1,f2,f3,f4,f5⟩:=jr (m:=x.aC) (by omega);have hmem:=(yF x.aC).2.2;have hlt:∀u,64<=u->u<v->gL x.aC u=true:=fun u hu huv=>by
   rw[List.find?_eq_some_iff_getElem]at f1;obtain⟨_,i,hi,hiv,hbef⟩:=f1;have vV:∀(j:Nat) (hj:j<oF.length),oF[j]=64+(j:Int):=fun j hj=>by simp[oF]
   have hcl:oF.length=64:=by simp[oF]
   rw[vV]at hiv;have:=hbef (u-64).toNat (by omega);rw[vV]at this;rw[show(64:Int)+((u-64).toNat:Int)=u by omega]at this;simpa using this
  have loop:∀(k:Nat) (F:Nat) (u:Int),64<=u->u+k=v->k<F->iter (fun s=>Ym FF (rC x.aC) s) F u=some v:=by
   intro k
   induction k with
   | zero=>
     intro F u h1' h2' hF;cases F with
     | zero=>omega
     | succ F=>
       have:u=v:=by omega
       subst this;refine aX ?_;show Ym FF _ u=_;unfold Ym;rw[SS _ _ (by omega),bs,nG0 (by
        rw[List.any_eq_true];rintro⟨y,hy,he⟩;have:u=y:=by simpa using he
        subst this;rw[(hmem u).1 hy]at f3;cases f3)]
   | succ k ih=>
     intro F u h1' h2' hF;cases F with
     | zero=>omega
     | succ F=>
       rw[bU (s':=u+1) (by
        show Ym FF _ u=_;unfold Ym;rw[SS _ _ (by omega),bs,pG0 (by
         rw[List.any_eq_true];exact⟨u,(hmem u).2 (hlt u h1' (by omega)),by simp⟩),jq (by omega) (by omega)])]
       exact ih F (u+1) (by omega) (by omega) (by omega)
  rw[loop (v-64).toNat FF 64 (by omega) (by omega) (by rw[jW];omega),f2];rfl
 ·rw[pG0 (dt (show len (rC x.aC)≥16 by rw[lN];omega)),nG0 h16,decide_eq_false h16]
theorem vX(x:bM):q10 FF x=some (decide (len x.aC.Out≥64)):=rfl
theorem YA(x:bM)(hn:1<=x.aC.bX/\x.aC.bX<=255)(hA:x.aC.aB.length<255):q1r FF x=some (uy x.aC,wm x (j5 x.aC)):=by
 unfold q1r;have loop:∀(r:Nat) (F k:Nat) (n:Int),k+r=255->1<=n/\n<=256->(∃j,j<r/\x.aC.aB.any (fun s=>s.ID==PZ j (if n>255 then 1 else n))=false)->r<F->iter (fun s:Int×Int=>Yk FF x s.1 s.2) F (n,(k:Int))=some (Dh x.aC.aB r (if n>255 then 1 else n)):=by
  intro r
  induction r with
  | zero=>intro F k n _ _ h _;obtain⟨j,hj,_⟩:=h;omega
  | succ r ih=>
    intro F k n hk hn' hex hF;cases F with
    | zero=>omega
    | succ F=>
      have hb:Yk FF x n (k:Int)=q46 FF x (k:Int) (if n>255 then 1 else n):=by
       unfold Yk;rw[pG0 (by simp;omega)];by_cases h:n>255
       ·rw[pG0 (by simp[h]),pG0 h]
       ·rw[nG0 (by simp;omega),nG0 h]
      generalize hq:(if n>255 then 1 else n)=q at *;have hqr:1<=q/\q<=255:=by subst hq;split <;> omega
      unfold Dh;have hb2:q46 FF x (k:Int) q=some (if x.aC.aB.any (fun s=>s.ID==q)=true then .next (q+1,((k+1:Nat):Int))else .done q):=by
       unfold q46;rw[WI _ q (by omega),bs];by_cases h:x.aC.aB.any (fun s=>s.ID==q)=true
       ·rw[nG0 (by simp[h]),pG0 h,bP (x:=q+1) (by omega) (by omega),wN k (by omega)]
       ·rw[pG0 (LA h),nG0 h]
      by_cases h:x.aC.aB.any (fun s=>s.ID==q)=true
      ·rw[pG0 h]at hb2;have hb3:=hb.trans hb2;rw[pG0 h,bU (s':=(q+1,((k+1:Nat):Int))) (by
        show Yk FF x n (k:Int)=_;rw[hb3])]
       have e:(if q+1>255 then 1 else q+1)=after q:=by unfold after;split <;> split <;> omega
       obtain⟨j,hj,hjb⟩:=hex;have:=ih F (k+1) (q+1) (by omega) (by omega) (by
        rw[e];cases j with
        | zero=>rw[PZ]at hjb;rw[hjb]at h;cases h
        | succ j=>exact⟨j,by omega,hjb⟩) (by omega)
       rw[e]at this;exact this
      ·rw[nG0 h]at hb2;have hb3:=hb.trans hb2;rw[nG0 h,aX (o:=q) (by
        show Yk FF x n (k:Int)=_;rw[hb3])]
 have hex:=BL x.aC.aB x.aC.bX hn hA;have k:=loop 255 FF 0 x.aC.bX rfl ⟨hn.1,by omega⟩ (by rw[nG0 (by omega)];exact hex) (by rw[jW];omega);rw[nG0 (by omega),show((0:Nat):Int)=0 from rfl]at k;rw[k,bs];unfold q6l;have hr:=vK x.aC.aB 255 x.aC.bX hn;have e:aK (gU (Dh x.aC.aB 255 x.aC.bX) 255+1)=after (uy x.aC):=by
  unfold gU after uy;rw[Int.tmod_eq_emod_of_nonneg (by omega),bP (by omega) (by omega)];split <;> omega
 rw[e];rfl
theorem AZ(x:bM)(mq:Int)(b:List Int)(hb:b.length<=10000000)(ho:x.aC.Out.length<=1000000000):q1e FF x mq b=some (wm x (qd x.aC mq b)):=by
 unfold q1e;rw[join_one FF b (by rw[jW];omega) (by omega),bs,dV (by simp;omega) (by omega)];rfl
theorem zR(s:aQ):(Sg.gX s).length<=14:=by
 have:=Sg.wH s;unfold Sg.gX;simp;omega
theorem sP(x:bM)(s:aQ)(hs:lV s)(ho:x.aC.Out.length<=1000000000):qf FF x s=some (wm x (jR x.aC s)):=by
 unfold qf;have hl:=zR s;rw[Sg.U8 s ⟨hs.2.1,hs.2.2⟩,bs];unfold Sg.GA;rw[pG0 hs.1];simp only
 rw[pG0 (by simp),AZ x 5 _ (by omega) ho];rfl
theorem LC(x:bM)(s:aQ)(hs:lV (fK s (uy x.aC)))(hn:1<=x.aC.bX/\x.aC.bX<=255)(hA:x.aC.aB.length<255)(ho:x.aC.Out.length<=1000000000):q1f FF x s=some (wm x (nk x.aC s)):=by
 unfold q1f;rw[YA x hn hA];simp only[bs];have e:=sP (wm x (j5 x.aC)) (fK s (uy x.aC)) hs ho;unfold fK at e;rw[e,bs];have hAl:(wm (wm x (j5 x.aC)) (jR (wm x (j5 x.aC)).aC { s with ID:=uy x.aC })).aC.aB=x.aC.aB:=rfl;rw[hAl,dV (by simp;omega) (by omega)];rfl
theorem uX(x:bM)(e:gy)(he:x.aq.length<=1000000000):qe FF x e=some { x with aq:=x.aq++[e] }:=by
 unfold qe;rw[dV (by simp;omega) (by omega)];rfl
theorem Sn(x:bM)(i:Nat)(c:aT)(hc:x.aC.aj[i]? = some c)(hs:lV (fK ⟨6,0,0,c.ap,c.ax,0,0,0,0,⟨0,0,0,0,0⟩⟩ (uy x.aC)))(hn:1<=x.aC.bX/\x.aC.bX<=255)(hA:x.aC.aB.length<255)(ho:x.aC.Out.length<=1000000000):VL FF x (i:Int)=some (wm x (lX x.aC c)):=by
 unfold VL lX;rw[bg hc,bs,ng x c (by omega),bs];by_cases h:bR x.aC c.ap=true
 ·rw[nG0 (by simp[h]),pG0 h];rfl
 ·rw[pG0 (LA h),nG0 h,LC x _ hs hn hA ho];rfl
end V
namespace V
theorem sG{α:Type}{l:List α}{i:Nat}{x y:α}(h:l[i]? = some x):upd l (i:Int) y=some (l.set i y):=by
 have hlt:=(gS.1 h).1;unfold upd;rw[pG0 (by omega),Int.toNat_natCast]
end V
namespace V
def zu:jF:=⟨0,0,0,0,0⟩
structure MInv(k:Nat)(m:aI):Prop where
 K4:m.ak.length<=64
 MK:∀l∈m.ak,je l.bZ=true/\je l.cu=true/\countB l.aA=true
 next:1<=m.bX/\m.bX<=255
 ask:∀s∈m.aB,lV s/\(s.ae=20∨s.ae=6∨s.ae=18)
 yA:((m.aB.filter fun s=>s.ae==20||s.ae==6).map (·.am)).Nodup
 zo:(m.aB.filter fun s=>s.ae==18).length<=1
 NR:m.aj.Pairwise fun a b=>a.ap<b.ap
 qW:∀c∈m.aj,Sd.Ok c
 yh:∀c∈m.aj,∀s∈m.aB,s.ae=20->s.am≠c.ap
 cnt:gB m<=16
 out:∀f∈m.Out,f.al.length<=4096/\1<=f.aU/\f.aU<=65535
 oP:m.Out=[]->m.aV=0
 sent:∀f r,m.Out=f::r->0<=m.aV/\m.aV<4+f.al.length
 asm:Fr.Val m.ay
 jL:m.Out.length<=k
theorem lW{c:aT}(h:Sd.Ok c):(64<=c.ap/\c.ap<=127)/\64<=c.ax/\c.ax<=127:=by
 have:=h.ids;omega
theorem Qt{s:aQ}(h:lV s)(hk:s.ae=20∨s.ae=6):64<=s.am/\s.am<=127:=by
 obtain⟨_,_,_,_,_,h6⟩:=Sg.jk h.1;rcases h6 with h6 | ⟨h6,_⟩
 ·omega
 ·unfold Sg.iK at h6;rcases hk with hk | hk
  ·rw[hk]at h6;simp[Sg.aJ,Sg.mo]at h6;omega
  ·rw[hk]at h6;simp[Sg.aJ,Sg.mo]at h6;omega
theorem MInv.ids{k:Nat}{m:aI}(h:MInv k m):CU m:=⟨fun c hc=>(lW (h.qW c hc)).1,fun s hs hk=>Qt (h.ask s hs).1 hk⟩
theorem MH{m:aI}(hc:CU m){v:Int}(h:gL m v=true):v∈oF.filter (gL m):=by
 rw[List.mem_filter];exact⟨(Cx v).2 (EM hc h),h⟩
theorem MInv.qX{k:Nat}{m:aI}(h:MInv k m):m.aj.length<=16:=by
 have hn:(m.aj.map (·.ap)).Nodup:=by
  unfold List.Nodup;rw[List.pairwise_map];exact h.NR.imp fun h=>by omega
 have:=jU _ (oF.filter (gL m)) hn fun x hx=>by
  rw[List.mem_map]at hx;obtain⟨c,hc,rfl⟩:=hx;exact MH h.ids ((dS m _).2 (.inl ⟨c,hc,rfl⟩))
 rw[List.length_map]at this;have:=h.cnt;unfold gB at this;omega
theorem NS(l:List aQ)(h:∀s∈l,s.ae=20∨s.ae=6∨s.ae=18):l.length=(l.filter fun s=>s.ae==20||s.ae==6).length+(l.filter fun s=>s.ae==18).length:=by
 induction l with
 | nil=>rfl
 | cons s l ih=>
   have h1:=ih fun x hx=>h x (by simp[hx]);rcases h s (by simp)with hk | hk | hk <;> simp[List.filter_cons,hk] <;> omega
theorem MInv.qY{k:Nat}{m:aI}(h:MInv k m):m.aB.length<=17:=by
 have h1:=NS m.aB fun s hs=>(h.ask s hs).2;have h2:=jU _ (oF.filter (gL m)) h.yA fun x hx=>by
  rw[List.mem_map]at hx;obtain⟨s,hs,rfl⟩:=hx;rw[List.mem_filter]at hs;exact MH h.ids ((dS m _).2 (.inr ⟨s,hs.1,by simpa using hs.2,rfl⟩))
 rw[List.length_map]at h2;have h3:=h.cnt;have h4:=h.zo;unfold gB at h3;omega
theorem MInv.sz{k:Nat}{m:aI}(h:MInv k m)(hk:k<=1000000000):Sz m:=by
 have h1:=h.K4;have h2:=h.qY;have h3:=h.qX;have h4:=h.jL;have h5:=h.asm.len;exact⟨by omega,by omega,by omega,by omega,fun c hc=>by have h:=(h.qW c hc).sm;exact⟨h.out,h.inn⟩,fun c hc=>(h.qW c hc).sm.each,fun f hf=>by have:=(h.out f hf).1;omega,by omega⟩
theorem MInv.more{k n:Nat}{m:aI}(h:MInv k m)(hn:k<=n):MInv n m:={ h with jL:=Nat.le_trans h.jL hn }
theorem sF{m m':aI}(h:∀v,gL m' v=true->gL m v=true):gB m'<=gB m:=by
 unfold gB;refine jU _ _ (uK.filter _) fun x hx=>?_;rw[List.mem_filter]at hx ⊢;exact⟨hx.1,h x hx.2⟩
theorem Dx{m m':aI}(w:Int)(h:∀v,gL m' v=true->gL m v=true∨v=w):gB m'<=gB m+1:=by
 unfold gB;have:=jU (oF.filter (gL m')) (w::oF.filter (gL m)) (uK.filter _) fun x hx=>by
  rw[List.mem_filter]at hx;rcases h x hx.2 with h1 | rfl
  ·exact List.mem_cons_of_mem _ (by rw[List.mem_filter];exact⟨hx.1,h1⟩)
  ·exact List.mem_cons_self ..
 rwa [lC0]at this
theorem MInv.qd{k:Nat}{m:aI}(h:MInv k m){mq:Int}{b:List Int}(hb:b.length<=4096)(hc:1<=mq/\mq<=65535):MInv (k+1) (qd m mq b):=by
 refine⟨h.K4,h.MK,h.next,h.ask,h.yA,h.zo,h.NR,h.qW,h.yh,h.cnt,?_,?_,?_,h.asm,?_⟩
 ·intro f hf;rcases List.mem_append.1 hf with hf | hf
  ·exact h.out f hf
  ·rw[mS]at hf;subst hf;exact⟨hb,hc⟩
 ·intro e;exact absurd (congrArg List.length e) (by simp[V.qd])
 ·intro f r e;cases ho:m.Out with
  | nil=>
    have h1:=h.oP ho;show 0<=m.aV/\m.aV<_;rw[h1];omega
  | cons g t=>
    have h1:=h.sent g t ho;have e':m.Out++[⟨mq,b⟩]=f::r:=e;rw[ho,List.cons_append]at e';injection e' with e1 _;subst e1;exact h1
 ·show(m.Out++[_]).length<=k+1;have:=h.jL;simp;omega
theorem MInv.say{k:Nat}{m:aI}(h:MInv k m)(s:aQ):MInv (k+1) (jR m s):=h.qd (by have:=zR s;omega) ⟨by decide,by decide⟩
theorem MInv.tick{k:Nat}{m:aI}(h:MInv k m):MInv k (j5 m):=
 ⟨h.K4,h.MK,yB (vK m.aB 255 m.bX h.next),h.ask,h.yA,h.zo,h.NR,h.qW,h.yh,h.cnt,h.out,h.oP,h.sent,h.asm,h.jL⟩
theorem MInv.asked{k:Nat}{m:aI}(h:MInv k m){s:aQ}(hs:lV s)(hk:(s.ae=20/\gL m s.am=false/\gB m<16)∨(s.ae=6/\bR m s.am=false/\∃c∈m.aj,c.ap=s.am)∨(s.ae=18/\m.aB.any (fun s=>s.ae==18)=false)):MInv k { m with aB:=m.aB++[s] }:=by
 have hu:∀v,gL { m with aB:=m.aB++[s] } v=true↔gL m v=true∨((s.ae=20∨s.ae=6)/\s.am=v):=fun v=>by
  rw[dS,dS];simp only[List.mem_append,mS];constructor
  ·rintro(h | ⟨t,ht | rfl,hq⟩)
   ·exact .inl (.inl h)
   ·exact .inl (.inr ⟨t,ht,hq⟩)
   ·exact .inr hq
  ·rintro((h | ⟨t,ht,hq⟩) | hq)
   ·exact .inl h
   ·exact .inr ⟨t,.inl ht,hq⟩
   ·exact .inr ⟨s,.inr rfl,hq⟩
 have hnew:∀t∈m.aB,(t.ae=20∨t.ae=6)->(s.ae=20∨s.ae=6)->t.am≠s.am:=fun t ht htk hsk e=>by
  rcases hk with⟨_,h2,_⟩ | ⟨h1,h2,c,hc,h3⟩ | ⟨h1,_⟩
  ·have:=(dS m s.am).2 (.inr ⟨t,ht,htk,e⟩);rw[h2]at this;cases this
  ·rcases htk with htk | htk
   ·exact h.yh c hc t ht htk (by rw[e,h3])
   ·unfold bR at h2;rw[List.any_eq_false]at h2;exact h2 t ht (by simp[htk,e])
  ·omega
 refine⟨h.K4,h.MK,h.next,?_,?_,?_,h.NR,h.qW,?_,?_,h.out,h.oP,h.sent,h.asm,h.jL⟩
 ·intro t ht;rcases List.mem_append.1 ht with ht | ht
  ·exact h.ask t ht
  ·rw[mS]at ht;subst ht;refine⟨hs,?_⟩;rcases hk with⟨h1,_⟩ | ⟨h1,_⟩ | ⟨h1,_⟩
   ·exact .inl h1
   ·exact .inr (.inl h1)
   ·exact .inr (.inr h1)
 ·show(((m.aB++[s]).filter _).map _).Nodup;rw[List.filter_append,List.map_append,List.nodup_append];refine⟨h.yA,?_,?_⟩
  ·cases hq:(s.ae==20||s.ae==6) <;> simp[List.filter_cons,hq]
  ·intro a ha b hb e;rw[List.mem_map]at ha hb;obtain⟨t,ht,rfl⟩:=ha;obtain⟨u,hu,rfl⟩:=hb;rw[List.mem_filter]at ht hu;have:u=s:=by simpa using hu.1
   subst this;exact hnew t ht.1 (by simpa using ht.2) (by simpa using hu.2) e
 ·show((m.aB++[s]).filter _).length<=1;rw[List.filter_append,lA];have:=h.zo;by_cases hq:(s.ae==18)=true
  ·have hq':s.ae=18:=by simpa using hq
   rcases hk with⟨h1,_⟩ | ⟨h1,_⟩ | ⟨_,h2⟩
   ·omega
   ·omega
   ·have:m.aB.filter (fun s=>s.ae==18)=[]:=by
     rw[List.filter_eq_nil_iff];rw[List.any_eq_false]at h2;exact h2
    rw[this];simp[List.filter_cons,hq]
  ·simp[List.filter_cons,hq];exact this
 ·intro c hc t ht htk;rcases List.mem_append.1 ht with ht | ht
  ·exact h.yh c hc t ht htk
  ·rw[mS]at ht;subst ht;intro e;rcases hk with⟨_,h2,_⟩ | ⟨h1,_⟩ | ⟨h1,_⟩
   ·have:=(dS m t.am).2 (.inl ⟨c,hc,e.symm⟩);rw[h2]at this;cases this
   ·omega
   ·omega
 ·have h16:=h.cnt;rcases hk with⟨h1,h2,h3⟩ | ⟨h1,h2,c,hc,h3⟩ | ⟨h1,h2⟩
  ·have:=Dx (m:=m) (m':={ m with aB:=m.aB++[s] }) s.am fun v hv=>by
    rcases(hu v).1 hv with h | ⟨_,h⟩
    ·exact .inl h
    ·exact .inr h.symm
   omega
  ·have:=sF (m:=m) (m':={ m with aB:=m.aB++[s] }) fun v hv=>by
    rcases(hu v).1 hv with h | ⟨_,h⟩
    ·exact h
    ·exact(dS m v).2 (.inl ⟨c,hc,by rw[h3,h]⟩)
   omega
  ·have:=sF (m:=m) (m':={ m with aB:=m.aB++[s] }) fun v hv=>by
    rcases(hu v).1 hv with h | ⟨h,_⟩
    ·exact h
    ·omega
   omega
theorem MInv.nk{k:Nat}{m:aI}(h:MInv k m){s:aQ}(hs:lV (fK s (uy m)))(hk:(s.ae=20/\gL m s.am=false/\gB m<16)∨(s.ae=6/\bR m s.am=false/\∃c∈m.aj,c.ap=s.am)∨(s.ae=18/\m.aB.any (fun s=>s.ae==18)=false)):MInv (k+1) (nk m s):=
 (h.tick.say (fK s (uy m))).asked hs hk
theorem nS{k:Nat}{m:aI}(h:MInv k m):1<=uy m/\uy m<=255:=vK m.aB 255 m.bX h.next
theorem L9{id psm src ru mps cr:Int}(hi:1<=id/\id<=255)(hp:1<=psm/\psm<=65535)(hs:64<=src/\src<=127)(h1:je ru=true)(h2:je mps=true)(h3:countB cr=true):lV ⟨20,id,psm,src,0,ru,mps,cr,0,zu⟩:=by
 refine⟨?_,by simp only;omega,by simp only;omega⟩;unfold je at h1 h2;unfold countB at h3;simp only[Bool.and_eq_true,decide_eq_true_eq]at h1 h2 h3;unfold Sg.wW;rw[nG0 (by simp[Sg.aJ]),nG0 (by simp;omega),nG0 (by simp[Sg.fq,Sg.aJ,Sg.wZ,zu]),nG0 (by simp[Sg.kR,Sg.aJ]),nG0 (by simp),nG0 (by simp[Sg.aJ];omega),nG0 (by simp[Sg.iK,Sg.aJ,Sg.mq,Sg.XU];omega),nG0 (by simp[Sg.aJ])]
theorem zy{id src dst:Int}(hi:1<=id/\id<=255)(hs:64<=src/\src<=127)(hd:64<=dst/\dst<=127)(kd:Int)(hk:kd=6∨kd=7):lV ⟨kd,id,0,src,dst,0,0,0,0,zu⟩:=by
 refine⟨?_,by simp only;omega,by simp only;omega⟩;unfold Sg.wW;rcases hk with rfl | rfl
 ·rw[nG0 (by simp[Sg.aJ]),nG0 (by simp;omega),nG0 (by simp[Sg.fq,Sg.aJ,Sg.wZ,zu]),nG0 (by simp[Sg.kR,Sg.aJ]),nG0 (by simp),nG0 (by simp[Sg.aJ]),nG0 (by simp[Sg.iK,Sg.aJ,Sg.mq];omega),nG0 (by simp[Sg.aJ])]
 ·rw[nG0 (by simp[Sg.aJ]),nG0 (by simp;omega),nG0 (by simp[Sg.fq,Sg.aJ,Sg.wZ,zu]),nG0 (by simp[Sg.kR,Sg.aJ]),nG0 (by simp),nG0 (by simp[Sg.aJ]),nG0 (by simp[Sg.iK,Sg.aJ,Sg.mq];omega),nG0 (by simp[Sg.aJ])]
theorem L6{id:Int}{u:jF}(hi:1<=id/\id<=255)(hu:Sg.nM u=0):lV ⟨18,id,0,0,0,0,0,0,0,u⟩:=by
 refine⟨?_,by simp only;omega,by simp only;omega⟩;unfold Sg.wW;rw[nG0 (by simp[Sg.aJ]),nG0 (by simp;omega),nG0 (by simp[Sg.fq,Sg.aJ]),nG0 (by simp[Sg.kR,Sg.aJ]),nG0 (by simp),nG0 (by simp[Sg.aJ]),nG0 (by simp[Sg.iK,Sg.aJ]),pG0 (by simp[Sg.aJ]),hu]
theorem pU{id r:Int}(hi:1<=id/\id<=255)(kd:Int)(hk:(kd=19/\(r=0∨r=1))∨(kd=1/\(r=0∨r=2))):lV ⟨kd,id,0,0,0,0,0,0,r,zu⟩:=by
 refine⟨?_,by simp only;omega,by simp only;omega⟩;unfold Sg.wW;rcases hk with⟨rfl,h⟩ | ⟨rfl,h⟩
 ·rw[nG0 (by simp[Sg.aJ]),nG0 (by simp;omega),nG0 (by simp[Sg.fq,Sg.aJ,Sg.wZ,zu]),nG0 (by simp[Sg.kR,Sg.aJ];omega),nG0 (by simp),nG0 (by simp[Sg.aJ]),nG0 (by simp[Sg.iK,Sg.aJ]),nG0 (by simp[Sg.aJ])]
 ·rw[nG0 (by simp[Sg.aJ]),nG0 (by simp;omega),nG0 (by simp[Sg.fq,Sg.aJ,Sg.wZ,zu]),nG0 (by simp[Sg.kR,Sg.aJ];omega),nG0 (by simp),nG0 (by simp[Sg.aJ]),nG0 (by simp[Sg.iK,Sg.aJ]),nG0 (by simp[Sg.aJ])]
end V
namespace V
theorem FFk:5000<FF/\100000<FF/\1000<FF:=by decide
theorem xS(m:aI)(n:Int):(BS m n = -1/\m.aj.any (fun c=>c.ap==n)=false)∨∃(i:Nat) (c:aT),BS m n=(i:Int)/\m.aj[i]? = some c/\c.ap=n:=by
 rcases uF (fun c:aT=>c.ap==n) m.aj with h | ⟨i,c,h1,h2,h3,_⟩
 ·exact .inl h
 ·exact .inr ⟨i,c,h1,h2,by simpa using h3⟩
theorem Oq(m:aI)(n:Int):(FU m n = -1/\m.aj.any (fun c=>c.ax==n)=false)∨∃(i:Nat) (c:aT),FU m n=(i:Int)/\m.aj[i]? = some c/\c.ax=n:=by
 rcases uF (fun c:aT=>c.ax==n) m.aj with h | ⟨i,c,h1,h2,h3,_⟩
 ·exact .inl h
 ·exact .inr ⟨i,c,h1,h2,by simpa using h3⟩
theorem MInv.chans{k:Nat}{m:aI}(h:MInv k m){l:List aT}(hl:l.map (·.ap)=m.aj.map (·.ap))(hok:∀c∈l,Sd.Ok c):MInv k { m with aj:=l }:=by
 have hm:∀v,(∃c∈l,c.ap=v)↔∃c∈m.aj,c.ap=v:=fun v=>by
  have h1:v∈l.map (·.ap)↔v∈m.aj.map (·.ap):=by rw[hl]
  simpa only[List.mem_map]using h1
 refine⟨h.K4,h.MK,h.next,h.ask,h.yA,h.zo,?_,hok,?_,?_,h.out,h.oP,h.sent,h.asm,h.jL⟩
 ·have h1:=h.NR;rw[← List.pairwise_map (f:=fun c:aT=>c.ap) (R:=(· < ·))]at h1;have h2:(l.map (·.ap)).Pairwise (· < ·):=by rw[hl];exact h1
  rwa [List.pairwise_map]at h2
 ·intro c hc s hs hk;obtain⟨c',hc',he⟩:=(hm c.ap).1 ⟨c,hc,rfl⟩;rw[← he];exact h.yh c' hc' s hs hk
 ·refine Nat.le_trans (sF fun v hv=>?_) h.cnt;rw[dS]at hv ⊢;rcases hv with hv | hv
  ·exact .inl ((hm v).1 hv)
  ·exact .inr hv
theorem map_set{l:List aT}{i:Nat}{c c':aT}(hc:l[i]? = some c)(he:c'.ap=c.ap):(l.set i c').map (·.ap)=l.map (·.ap):=by
 apply List.ext_getElem?;intro j;rw[List.getElem?_map,List.getElem?_map,List.getElem?_set];by_cases hj:i=j
 ·subst hj;have hlt:=(gS.1 hc).1;rw[pG0 rfl,pG0 hlt,hc];simp[he]
 ·rw[nG0 hj]
theorem MInv.put{k:Nat}{m:aI}(h:MInv k m){i:Nat}{c c':aT}(hc:m.aj[i]? = some c)(hok:Sd.Ok c')(he:c'.ap=c.ap):MInv k (gD m i c'):=
 h.chans (map_set hc he) fun d hd=>by
  rcases List.mem_or_eq_of_mem_set hd with hd | rfl
  ·exact h.qW d hd
  ·exact hok
theorem Mw(x:bM)(n:Int)(h1:x.aC.aj.length<=1000000)(h2:x.aC.aB.length<=1000000):q32 FF x n=some (if BS x.aC n<0 then(0,6)else if bR x.aC n=true then(0,9)else(BS x.aC n,0)):=by
 unfold q32;rw[vP x n h1,bs];rcases xS x.aC n with⟨h,_⟩ | ⟨i,c,h,hc,hn⟩
 ·rw[h,pG0 (by decide),pG0 (by decide)]
 ·rw[h,nG0 (df (by omega)),nG0 (by omega),bg hc,bs,ng x c h2,bs,hn];by_cases hb:bR x.aC n=true
  ·rw[pG0 hb,pG0 hb]
  ·rw[nG0 hb,nG0 hb]
theorem MInv.lX{k:Nat}{m:aI}(h:MInv k m){c:aT}(hc:c∈m.aj):lV (fK ⟨6,0,0,c.ap,c.ax,0,0,0,0,⟨0,0,0,0,0⟩⟩ (uy m))/\MInv (k+1) (lX m c):=by
 have hi:=lW (h.qW c hc);have hs:lV (fK ⟨6,0,0,c.ap,c.ax,0,0,0,0,⟨0,0,0,0,0⟩⟩ (uy m)):=zy (nS h) hi.1 hi.2 6 (.inl rfl);refine⟨hs,?_⟩;unfold V.lX;split
 ·exact h.more (by omega)
 ·rename_i hb;exact h.nk hs (.inr (.inl ⟨rfl,(Bool.not_eq_true _).mp hb,c,hc,rfl⟩))
end V
namespace V
def Kk(l:List aT)(fr:List (List (List Int)))(rd:Nat)(m:aI)(i:Nat):aI:=match fr[i]?,l[i]? with
 | some f,some c=>(match f[rd]? with
   | some b=>qd m c.ax b
   | none=>m)
 | _,_=>m
def fG(l:List aT)(fr:List (List (List Int)))(rd:Nat)(m:aI)(n:Nat):aI:=(List.range n).foldl (Kk l fr rd) m
def iw(l:List aT)(fr:List (List (List Int)))(m:aI)(n:Nat):aI:=(List.range n).foldl (fun m rd=>fG l fr rd m fr.length) m
theorem jf(l:List aT)(fr:List (List (List Int)))(rd:Nat)(m:aI)(n:Nat):fG l fr rd m (n+1)=Kk l fr rd (fG l fr rd m n) n:=by
 unfold fG;rw[List.range_succ,List.foldl_append];rfl
theorem iN(l:List aT)(fr:List (List (List Int)))(m:aI)(n:Nat):iw l fr m (n+1)=fG l fr n (iw l fr m n) fr.length:=by
 unfold iw;rw[List.range_succ,List.foldl_append];rfl
theorem Vz{k:Nat}{m:aI}(h:MInv k m){l:List aT}(hl:∀c∈l,Sd.Ok c){fr:List (List (List Int))}(hf:∀f∈fr,∀b∈f,b.length<=4096)(rd i:Nat):MInv (k+1) (Kk l fr rd m i)/\(Kk l fr rd m i).aj=m.aj:=by
 unfold Kk;split
 ·rename_i f c h1 h2;split
  ·rename_i b h3;have hi:=lW (hl c (List.mem_of_getElem? h2));exact⟨h.qd (hf f (List.mem_of_getElem? h1) b (List.mem_of_getElem? h3)) (by omega),rfl⟩
  ·exact⟨h.more (by omega),rfl⟩
 ·exact⟨h.more (by omega),rfl⟩
theorem uo{k:Nat}{m:aI}(h:MInv k m){l:List aT}(hl:∀c∈l,Sd.Ok c){fr:List (List (List Int))}(hf:∀f∈fr,∀b∈f,b.length<=4096)(rd:Nat):∀n,MInv (k+n) (fG l fr rd m n)/\(fG l fr rd m n).aj=m.aj
 | 0=>⟨h,rfl⟩
 | n+1=>by
   obtain⟨h1,h2⟩:=uo h hl hf rd n;rw[jf];obtain⟨h3,h4⟩:=Vz h1 hl hf rd n;exact⟨h3,h4.trans h2⟩
theorem rM{k:Nat}{m:aI}(h:MInv k m){l:List aT}(hl:∀c∈l,Sd.Ok c){fr:List (List (List Int))}(hf:∀f∈fr,∀b∈f,b.length<=4096):∀n,MInv (k+n*fr.length) (iw l fr m n)/\(iw l fr m n).aj=m.aj
 | 0=>by rw[Nat.zero_mul];exact⟨h,rfl⟩
 | n+1=>by
   obtain⟨h1,h2⟩:=rM h hl hf n;rw[iN];obtain⟨h3,h4⟩:=uo h1 hl hf n fr.length;rw[Nat.succ_mul,← Nat.add_assoc];exact⟨h3,h4.trans h2⟩
end V
namespace V
def lim(m:aI):Int:=if m.Length<27 then 27 else if m.Length>251 then 251 else m.Length
def toM(m:aI)(f:bJ):Int:=min ((f.al.length:Int)+4) (m.aV+lim m)
theorem F9(m:aI):27<=lim m/\lim m<=251:=by unfold lim;split <;> (try split) <;> omega
theorem MInv.outs{k:Nat}{m:aI}(h:MInv k m){o:List bJ}{s:Int}(h1:∀f∈o,f∈m.Out)(h2:o.length<=m.Out.length)(h3:o=[]->s=0)(h4:∀f r,o=f::r->0<=s/\s<4+f.al.length):MInv k { m with Out:=o,aV:=s }:=
 ⟨h.K4,h.MK,h.next,h.ask,h.yA,h.zo,h.NR,h.qW,h.yh,h.cnt,fun f hf=>h.out f (h1 f hf),h3,h4,h.asm,Nat.le_trans h2 h.jL⟩
def VN(m:aI)(f:bJ):eH:=⟨if m.aV=0 then 2 else 1,((Fr.bytesOf f).take (toM m f).toNat).drop m.aV.toNat⟩
def jA(m:aI)(f:bJ)(r:List bJ):aI:=if toM m f=(f.al.length:Int)+4 then { m with Out:=r,aV:=0 }else { m with aV:=toM m f }
end V
namespace V
def fu(a b:aQ):Bool:=(a.ID==b.ID)&&(if a.ae=20 then((b.ae==21)||(b.ae==1))else if a.ae=6 then((b.ae==1)||(((b.ae==7)&&(b.am==a.am))&&(b.bT==a.bT)))else if a.ae=18 then((b.ae==19)||(b.ae==1))else false)
theorem abw(F:Nat)(a b:aQ):q4j F a b=some (fu a b):=by
 unfold q4j fu;by_cases hi:a.ID=b.ID
 ·rw[nG0 (by simp[hi])];by_cases h1:a.ae=20
  ·simp[h1,hi]
  ·by_cases h2:a.ae=6
   ·simp[h2,hi]
   ·by_cases h3:a.ae=18
    ·simp[h3,hi]
    ·simp[h1,h2,h3]
 ·rw[pG0 (by simpa using hi)];simp[hi]
def zs:aQ:=⟨0,0,0,0,0,0,0,0,0,⟨0,0,0,0,0⟩⟩
def pE{α:Type}(l:List α)(i:Nat):List α:=l.take i++l.drop (i+1)
theorem sS{α:Type}(l:List α)(i:Nat):(pE l i).Sublist l:=by
 unfold pE;rw[← List.eraseIdx_eq_take_drop_succ];exact List.eraseIdx_sublist l i
def kM(c:aT):List aT->List aT
 | []=>[c]
 | d::l=>if d.ap<c.ap then d::kM c l else c::d::l
def yj(c:aT):List aT->Nat
 | []=>0
 | d::l=>if d.ap<c.ap then yj c l+1 else 0
theorem Nb(c:aT):∀l,yj c l<=l.length
 | []=>lR _
 | d::l=>by
   have:=Nb c l;unfold yj;split
   ·rw[lC0];omega
   ·omega
theorem Jq(c:aT):∀l,l.take (yj c l)++[c]++l.drop (yj c l)=kM c l
 | []=>rfl
 | d::l=>by
   unfold yj kM;split
   ·rw[List.take_succ_cons,List.drop_succ_cons,List.cons_append,List.cons_append,Jq c l]
   ·rfl
theorem oW(c:aT):∀(l:List aT) (d:aT),d∈kM c l↔d=c∨d∈l
 | [],d=>by simp[kM]
 | e::l,d=>by
   unfold kM;split
   ·rw[List.mem_cons,oW c l d,List.mem_cons];constructor
    ·rintro(h | h | h)
     ·exact .inr (.inl h)
     ·exact .inl h
     ·exact .inr (.inr h)
    ·rintro(h | h | h)
     ·exact .inr (.inl h)
     ·exact .inl h
     ·exact .inr (.inr h)
   ·rw[List.mem_cons]
theorem Jp(c:aT):∀(l:List aT),l.Pairwise (fun a b=>a.ap<b.ap)->(∀d∈l,d.ap≠c.ap)->(kM c l).Pairwise (fun a b=>a.ap<b.ap)
 | [],_,_=>by simp[kM]
 | e::l,h,hn=>by
   rw[List.pairwise_cons]at h;unfold kM;split
   ·rename_i hlt;rw[List.pairwise_cons];refine⟨fun d hd=>?_,Jp c l h.2 fun d hd=>hn d (by simp[hd])⟩;rcases(oW c l d).1 hd with rfl | hd
    ·exact hlt
    ·exact h.1 d hd
   ·rename_i hge;have he:=hn e (by simp);rw[List.pairwise_cons];refine⟨fun d hd=>?_,by rw[List.pairwise_cons];exact h⟩;rcases List.mem_cons.1 hd with rfl | hd
    ·omega
    ·have:=h.1 d hd;omega
theorem at_loop(x:bM)(c:aT)(hn:x.aC.aj.length<=1000):∀(l:List aT) (k f:Nat),x.aC.aj.drop k=l->k<=x.aC.aj.length->l.length<f->iter (fun s=>UE FF x c s) f (k:Int)=some ((k+yj c l:Nat):Int)
 | [],k,f,hd,hk,hf=>by
   have hk2:k=x.aC.aj.length:=by
    have:=congrArg List.length hd;rw[List.length_drop,List.length_nil]at this;omega
   cases f with
   | zero=>omega
   | succ f=>
     refine aX ?_;show UE FF x c (k:Int)=_;unfold UE q4u;rw[nG0 (df (by rw[lN];omega)),nG0 (by simp)];rfl
 | d::l,k,f,hd,hk,hf=>by
   have hx:x.aC.aj[k]? = some d:=by
    have:=congrArg (fun z:List aT=>z[0]?) hd;simpa using this
   have hlt:=(gS.1 hx).1;have hd2:x.aC.aj.drop (k+1)=l:=by
    have:=congrArg List.tail hd;simpa using this
   cases f with
   | zero=>simp at hf
   | succ f=>
     unfold yj;by_cases h:d.ap<c.ap
     ·rw[pG0 h,bU (s':=((k+1:Nat):Int)) (by
       show UE FF x c (k:Int)=_;unfold UE q4u;rw[pG0 (dt (by rw[lN];omega)),bg hx,bs,pG0 (dt h),wN k (by omega)]),at_loop x c hn l (k+1) f hd2 hlt (by simp at hf;omega),show k+1+yj c l=k+(yj c l+1) by omega]
     ·rw[nG0 h];refine aX ?_;show UE FF x c (k:Int)=_;unfold UE q4u;rw[pG0 (dt (by rw[lN];omega)),bg hx,bs,nG0 (df h)];rfl
theorem Ue(x:bM)(c:aT)(hn:x.aC.aj.length<=1000)(he:x.aq.length<=1000):q30 FF x c=some ⟨{ x.aC with aj:=kM { c with bi:=-1 } x.aC.aj },x.aq++[⟨2,c.ap,[],0,zu,0⟩]⟩:=by
 unfold q30;have k:=at_loop x c hn x.aC.aj 0 FF (by simp) (by omega) (by rw[jW];omega);rw[show((0:Nat):Int)=0 from rfl,Nat.zero_add]at k;rw[k,bs];unfold q7c q4t;have hle:=Nb c x.aC.aj;have hcc:∀l,yj c l=yj { c with bi:=-1 } l:=by
  intro l
  induction l with
  | nil=>rfl
  | cons d l ih=>unfold yj;rw[ih]
 rw[pG0 (by refine⟨by omega,by omega,rfl,by omega⟩),bs,Int.toNat_natCast,hcc,Jq];unfold q7b q7a;rw[uX _ _ (by simp only;omega)];rfl
theorem D7(x:bM)(i:Nat)(c:aT)(hc:x.aC.aj[i]? = some c)(hn:x.aC.aj.length<=1000)(he:x.aq.length<=1000):q2x FF x (i:Int)=some ⟨{ x.aC with aj:=pE x.aC.aj i },x.aq++[⟨4,c.ap,[],0,zu,0⟩]⟩:=by
 have hlt:=(gS.1 hc).1;unfold q2x q4l;rw[bg hc,bs,wN i (by omega),pG0 (by omega),bs,uX _ _ (by simp only;omega)];rfl
theorem MInv.drop{k:Nat}{m:aI}(h:MInv k m)(i:Nat):MInv k { m with aB:=pE m.aB i }:=by
 have hs:=sS m.aB i;have hm:∀s∈pE m.aB i,s∈m.aB:=fun s hq=>hs.subset hq;refine⟨h.K4,h.MK,h.next,fun s hq=>h.ask s (hm s hq),?_,?_,h.NR,h.qW,fun c hc s hq=>h.yh c hc s (hm s hq),?_,h.out,h.oP,h.sent,h.asm,h.jL⟩
 ·exact List.Pairwise.sublist ((hs.filter _).map _) h.yA
 ·exact Nat.le_trans (hs.filter _).length_le h.zo
 ·refine Nat.le_trans (sF fun v hv=>?_) h.cnt;rw[dS]at hv ⊢;rcases hv with hv | ⟨s,hq,hr⟩
  ·exact .inl hv
  ·exact .inr ⟨s,hm s hq,hr⟩
theorem MInv.shut{k:Nat}{m:aI}(h:MInv k m)(i:Nat):MInv k { m with aj:=pE m.aj i }:=by
 have hs:=sS m.aj i;have hm:∀s∈pE m.aj i,s∈m.aj:=fun s hq=>hs.subset hq;refine⟨h.K4,h.MK,h.next,h.ask,h.yA,h.zo,List.Pairwise.sublist hs h.NR,fun c hc=>h.qW c (hm c hc),fun c hc=>h.yh c (hm c hc),?_,h.out,h.oP,h.sent,h.asm,h.jL⟩;refine Nat.le_trans (sF fun v hv=>?_) h.cnt;rw[dS]at hv ⊢;rcases hv with⟨c,hc,hr⟩ | hv
 ·exact .inl ⟨c,hm c hc,hr⟩
 ·exact .inr hv
theorem MInv.add{k:Nat}{m:aI}(h:MInv k m){c:aT}(hc:Sd.Ok c)(h1:∀d∈m.aj,d.ap≠c.ap)(h2:∀s∈m.aB,s.ae=20->s.am≠c.ap)(h3:gB { m with aj:=kM c m.aj }<=16):MInv k { m with aj:=kM c m.aj }:=by
 refine⟨h.K4,h.MK,h.next,h.ask,h.yA,h.zo,Jp c _ h.NR h1,fun d hd=>?_,fun d hd=>?_,h3,h.out,h.oP,h.sent,h.asm,h.jL⟩
 ·rcases(oW c _ d).1 hd with rfl | hd
  ·exact hc
  ·exact h.qW d hd
 ·rcases(oW c _ d).1 hd with rfl | hd
  ·exact h2
  ·exact h.yh d hd
theorem LU(m:aI)(c:aT)(v:Int):gL { m with aj:=kM c m.aj } v=true↔gL m v=true∨v=c.ap:=by
 rw[dS,dS];simp only[oW];constructor
 ·rintro(⟨d,rfl | hd,rfl⟩ | h)
  ·exact .inr rfl
  ·exact .inl (.inl ⟨d,hd,rfl⟩)
  ·exact .inl (.inr h)
 ·rintro((⟨d,hd,rfl⟩ | h) | rfl)
  ·exact .inl ⟨d,.inr hd,rfl⟩
  ·exact .inr h
  ·exact .inl ⟨c,.inl rfl,rfl⟩
theorem Io{k:Nat}{m:aI}(h:MInv k m){i:Nat}{r:aQ}(hr:m.aB[i]? = some r)(hk:r.ae=20):∀s∈pE m.aB i,(s.ae=20∨s.ae=6)->s.am≠r.am:=by
 have hlt:=(gS.1 hr).1;have he:m.aB=m.aB.take i++r::m.aB.drop (i+1):=by
  have h1:m.aB.drop i=r::m.aB.drop (i+1):=by
   rw[List.drop_eq_getElem_cons hlt];rw[gE hlt]at hr;injection hr with hr;rw[hr]
  rw[← h1,List.take_append_drop]
 have hn:=h.yA;rw[he,List.filter_append,List.map_append,List.filter_cons,pG0 (by simp[hk]),mC,List.nodup_append,List.nodup_cons]at hn;obtain⟨_,⟨n1,_⟩,n2⟩:=hn;intro s hs hsk e;have hp:(s.ae==20||s.ae==6)=true:=by simpa using hsk
 unfold pE at hs;rcases List.mem_append.1 hs with hs | hs
 ·exact n2 s.am (List.mem_map.2 ⟨s,List.mem_filter.2 ⟨hs,hp⟩,rfl⟩) r.am (by simp) e
 ·exact n1 (List.mem_map.2 ⟨s,List.mem_filter.2 ⟨hs,hp⟩,e⟩)
end V
namespace V
namespace Po
def oO(k:Int):Nat:=if k=20 then 10 else if k=21 then 4 else if k=6∨k=18 then 2 else 0
def frX(f:bJ):Nat:=if f.aU=4∨f.aU=6 then 0 else if f.aU=5 then oO (f.al.headD 0)else 2
def Kq(f:bJ):Nat:=f.al.length+30+27*frX f
def NW(s:List Int):Nat:=5*(s.length+2)+84
def CW(c:aT):Nat:=(c.Out.map NW).sum-5*c.aV.toNat
def UL(m:aI)(c:aT):Nat:=if bR m c.ap=true then 0 else 108
def lS(m:aI)(c:aT):Nat:=CW c+UL m c
def vI(m:aI):Nat:=(m.Out.map Kq).sum
def fZ(m:aI):Nat:=(m.aj.map (lS m)).sum+vI m
theorem Au{α:Type}(f g:α->Nat):∀(l:List α),(∀x∈l,f x<=g x)->(l.map f).sum<=(l.map g).sum
 | [],_=>lR _
 | x::l,h=>by
   have:=Au f g l fun y hy=>h y (by simp[hy]);have:=h x (by simp);simp only[mC,List.sum_cons];omega
theorem Il{α:Type}(f g:α->Nat)(d:Nat):∀(l:List α),(∀x∈l,f x<=g x)->(∃x∈l,f x+d<=g x)->(l.map f).sum+d<=(l.map g).sum
 | [],_,⟨_,h,_⟩=>by cases h
 | x::l,h,⟨y,hy,hd⟩=>by
   simp only[mC,List.sum_cons];rcases List.mem_cons.1 hy with rfl | hy
   ·have:=Au f g l fun z hz=>h z (by simp[hz]);omega
   ·have:=Il f g d l (fun z hz=>h z (by simp[hz])) ⟨y,hy,hd⟩;have:=h x (by simp);omega
theorem KS(m:aI)(mq:Int)(b:List Int):fZ (qd m mq b)=fZ m+Kq ⟨mq,b⟩:=by
 have h1:∀c,lS (qd m mq b) c=lS m c:=fun c=>rfl;unfold fZ vI;rw[show(qd m mq b).aj=m.aj from rfl,show(qd m mq b).Out=m.Out++[⟨mq,b⟩]from rfl,List.map_append,List.sum_append,show lS (qd m mq b)=lS m from funext h1];simp only[mC,List.map_nil,List.sum_cons,List.sum_nil];omega
theorem WB(s:aQ)(hk:0<=s.ae/\s.ae<256):Kq ⟨5,Sg.gX s⟩<=44+27*oO s.ae:=by
 have h:=zR s;have h0:(Sg.gX s).headD 0=s.ae:=by
  unfold Sg.gX;show kP s.ae=s.ae;exact FB hk.1 hk.2
 unfold Kq frX;simp only[h0];rw[nG0 (by decide),pG0 trivial];omega
theorem nP(m:aI)(s:aQ)(hk:0<=s.ae/\s.ae<256):fZ (jR m s)<=fZ m+44+27*oO s.ae:=by
 have:=WB s hk;unfold jR;rw[KS];omega
theorem BD(m:aI):fZ (j5 m)=fZ m:=rfl
theorem rZ(m:aI)(s:aQ)(l:Int):bR { m with aB:=m.aB++[s] } l=(bR m l||((s.ae==6)&&(s.am==l))):=by
 unfold bR;simp[List.any_append]
theorem Ov(m:aI)(s:aQ):fZ { m with aB:=m.aB++[s] }<=fZ m:=by
 unfold fZ;have:(m.aj.map (lS { m with aB:=m.aB++[s] })).sum<=(m.aj.map (lS m)).sum:=Au _ _ _ fun c _=>by
  unfold lS UL;rw[rZ];cases h:bR m c.ap with
  | true=>simp
  | false=>cases h2:((s.ae==6)&&(s.am==c.ap)) <;> simp
 exact Nat.add_le_add_right this _
theorem KT(m:aI)(s:aQ)(hk:s.ae=6){c:aT}(hc:c∈m.aj)(hs:s.am=c.ap)(hn:bR m c.ap=false):fZ { m with aB:=m.aB++[s] }+108<=fZ m:=by
 unfold fZ;have:(m.aj.map (lS { m with aB:=m.aB++[s] })).sum+108<=(m.aj.map (lS m)).sum:=Il _ _ _ _ (fun c _=>by
  unfold lS UL;rw[rZ];cases h:bR m c.ap with
  | true=>simp
  | false=>cases h2:((s.ae==6)&&(s.am==c.ap)) <;> simp) ⟨c,hc,by
    unfold lS UL;rw[rZ,hn,hk,hs];simp⟩
 have e:vI { m with aB:=m.aB++[s] }=vI m:=rfl;show(m.aj.map (lS { m with aB:=m.aB++[s] })).sum+vI { m with aB:=m.aB++[s] }+108<=_;rw[e];omega
theorem Mk(m:aI)(s:aQ)(hk:0<=s.ae/\s.ae<256):fZ (nk m s)<=fZ m+44+27*oO s.ae:=by
 have h1:=Ov (jR (j5 m) (fK s (uy m))) (fK s (uy m));have h2:=nP (j5 m) (fK s (uy m)) hk;rw[BD]at h2;exact Nat.le_trans h1 h2
theorem FW(m:aI){c:aT}(hc:c∈m.aj):fZ (lX m c)<=fZ m:=by
 unfold lX;by_cases h:bR m c.ap=true
 ·rw[pG0 h];omega
 ·rw[nG0 h];have hs:=nP (j5 m) (fK ⟨6,0,0,c.ap,c.ax,0,0,0,0,⟨0,0,0,0,0⟩⟩ (uy m)) (by simp only[fK];omega);have h6:=KT (jR (j5 m) (fK ⟨6,0,0,c.ap,c.ax,0,0,0,0,⟨0,0,0,0,0⟩⟩ (uy m))) (fK ⟨6,0,0,c.ap,c.ax,0,0,0,0,⟨0,0,0,0,0⟩⟩ (uy m)) rfl (c:=c) hc rfl (show bR m c.ap=false by simpa using h);rw[BD]at hs;have e6:oO 6=2:=by decide
  simp only[fK,e6]at hs h6;unfold nk fK;exact Nat.le_of_add_le_add_right (Nat.le_trans h6 (by omega):_+108<=fZ m+108)
theorem U3{α:Type}(f:α->Nat){l:List α}{i:Nat}{x y:α}(h:l[i]? = some x):((l.set i y).map f).sum+f x=(l.map f).sum+f y:=by
 induction l generalizing i with
 | nil=>simp at h
 | cons a l ih=>
   cases i with
   | zero=>
     simp at h;subst h;simp only[List.set_cons_zero,mC,List.sum_cons];omega
   | succ i=>
     have:=ih (by simpa using h);simp only[List.set_cons_succ,mC,List.sum_cons];omega
theorem zI(m:aI){i:Nat}{c c':aT}(hc:m.aj[i]? = some c)(hl:c'.ap=c.ap):fZ (gD m i c')+CW c=fZ m+CW c':=by
 have e:∀d,lS (gD m i c') d=lS m d:=fun d=>rfl;have h:=U3 (lS m) (y:=c') hc;have e2:lS m c'+CW c=lS m c+CW c':=by
  unfold lS UL;rw[hl];omega
 unfold fZ;rw[show lS (gD m i c')=lS m from funext e,show vI (gD m i c')=vI m from rfl,show(gD m i c').aj=m.aj.set i c' from rfl];omega
theorem Zy{α:Type}(f:α->Nat){l:List α}{i:Nat}{x:α}(h:l[i]? = some x):((pE l i).map f).sum+f x=(l.map f).sum:=by
 induction l generalizing i with
 | nil=>simp at h
 | cons a l ih=>
   cases i with
   | zero=>
     simp at h;subst h;simp[pE];omega
   | succ i=>
     have:=ih (i:=i) (by simpa using h);unfold pE at this ⊢;simp only[List.take_succ_cons,List.drop_succ_cons,List.cons_append,mC,List.sum_cons];omega
theorem I7(m:aI){i:Nat}{c:aT}(hc:m.aj[i]? = some c):fZ { m with aj:=pE m.aj i }+lS m c=fZ m:=by
 have h:=Zy (lS m) hc;have e:lS { m with aj:=pE m.aj i }=lS m:=rfl;unfold fZ;rw[e,show vI { m with aj:=pE m.aj i }=vI m from rfl];show((pE m.aj i).map (lS m)).sum+_+_=_;omega
theorem LZ(f:aT->Nat)(c:aT):∀l,((kM c l).map f).sum=(l.map f).sum+f c
 | []=>by simp[kM]
 | d::l=>by
   unfold kM;split
   ·have:=LZ f c l;simp only[mC,List.sum_cons];omega
   ·simp only[mC,List.sum_cons];omega
theorem Ml(m:aI)(c:aT)(ho:c.Out=[]):fZ { m with aj:=kM c m.aj }<=fZ m+108:=by
 have h:=LZ (lS m) c m.aj;have e:lS { m with aj:=kM c m.aj }=lS m:=rfl;unfold fZ;rw[e,show vI { m with aj:=kM c m.aj }=vI m from rfl];show((kM c m.aj).map (lS m)).sum+_<=_;have:lS m c<=108:=by
  unfold lS CW UL;rw[ho];simp;split <;> omega
 omega
end Po
end V
namespace V
def F8(m:aI)(n:Int):Option (Nat×aT):=match m.aj.findIdx? (fun c=>c.ap==n)with
 | none=>none
 | some i=>match m.aj[i]? with
   | none=>none
   | some c=>some (i,c)
def KQ(m:aI)(n:Int):Option (Nat×aT):=match m.aj.findIdx? (fun c=>c.ax==n)with
 | none=>none
 | some i=>match m.aj[i]? with
   | none=>none
   | some c=>some (i,c)
theorem dQ(m:aI)(n:Int):(F8 m n=none/\BS m n = -1/\∀c∈m.aj,c.ap≠n)∨∃(i:Nat) (c:aT),F8 m n=some (i,c)/\BS m n=(i:Int)/\m.aj[i]? = some c/\c.ap=n:=by
 rcases xS m n with⟨h1,h2⟩ | ⟨i,c,h1,h2,h3⟩
 ·refine .inl ⟨?_,h1,fun c hc e=>?_⟩
  ·unfold F8;unfold BS fidx at h1;split
   ·rfl
   ·rename_i i hi;rw[hi]at h1;simp only at h1;omega
  ·rw[List.any_eq_false]at h2;exact h2 c hc (by simpa using e)
 ·refine .inr ⟨i,c,?_,h1,h2,h3⟩;unfold F8;unfold BS fidx at h1;split
  ·rename_i hi;rw[hi]at h1;simp only at h1;omega
  ·rename_i j hj;rw[hj]at h1;simp only at h1;have:j=i:=by omega
   subst this;rw[h2]
theorem kX(m:aI)(n:Int):(KQ m n=none/\FU m n = -1/\∀c∈m.aj,c.ax≠n)∨∃(i:Nat) (c:aT),KQ m n=some (i,c)/\FU m n=(i:Int)/\m.aj[i]? = some c/\c.ax=n:=by
 rcases Oq m n with⟨h1,h2⟩ | ⟨i,c,h1,h2,h3⟩
 ·refine .inl ⟨?_,h1,fun c hc e=>?_⟩
  ·unfold KQ;unfold FU fidx at h1;split
   ·rfl
   ·rename_i i hi;rw[hi]at h1;simp only at h1;omega
  ·rw[List.any_eq_false]at h2;exact h2 c hc (by simpa using e)
 ·refine .inr ⟨i,c,?_,h1,h2,h3⟩;unfold KQ;unfold FU fidx at h1;split
  ·rename_i hi;rw[hi]at h1;simp only at h1;omega
  ·rename_i j hj;rw[hj]at h1;simp only at h1;have:j=i:=by omega
   subst this;rw[h2]
def eF(m:aI)(psm ru mps cr:Int):aI×Int×Int:=
 if psm=0 then(m,0,1)else if (je ru&&(je mps&&countB cr))=false then(m,0,5)else if 16<=gB m∨64<=m.Out.length then(m,0,8)else(nk m ⟨20,0,psm,mW m,0,ru,mps,cr,0,zu⟩,mW m,0)
def uG(m:aI)(n:Int):aI×Int:=match F8 m n with
 | none=>(m,6)
 | some (_,c)=>if bR m n=true then(m,9)else if 64<=m.Out.length then(m,8)else(lX m c,0)
def Mj(c:aT)(b:List Int):aT×Int:=
 if c.bd=true then(c,9)else if (b.length:Int)>c.jQ then(c,4)else if 64<=c.Out.length then(c,8)else({ c with Out:=c.Out++[b] },0)
def jB(m:aI)(n:Int)(b:List Int):aI×Int:=match F8 m n with
 | none=>(m,6)
 | some (i,c)=>if bR m n=true then(m,9)else if (Mj c b).2=0 then(gD m i (Mj c b).1,0)else(m,(Mj c b).2)
def qD(m:aI)(n:Int)(b:List Int):aI×Int:=
 if n≠4/\n≠6 then(m,5)else if 4096<b.length then(m,4)else if 64<=m.Out.length then(m,8)else(qd m n b,0)
def jX(m:aI)(u:jF):aI×Int:=
 if m.iY≠1 then(m,9)else if Sg.nM u≠0 then(m,Sg.nM u)else if (m.aB.any fun s=>s.ae==18)=true then(m,20)else if 64<=m.Out.length then(m,8)else(nk m ⟨18,0,0,0,0,0,0,0,0,u⟩,0)
def kg(m:aI)(id r:Int):aI×Int:=
 if m.iY≠0 then(m,9)else if ¬ ((1<=id/\id<=255)/\(r=0∨r=1))then(m,5)else if 64<=m.Out.length then(m,8)else(jR m ⟨19,id,0,0,0,0,0,0,r,zu⟩,0)
theorem tV(l:List bJ):(len l≥64)↔64<=l.length:=by rw[lN];omega
theorem uI{k:Nat}{m:aI}(h:MInv k m)(hk:k<=900000000)(psm ru mps cr:Int)(hp:0<=psm/\psm<=65535):q1g FF m psm ru mps cr=some (eF m psm ru mps cr)/\MInv (k+1) (eF m psm ru mps cr).1:=by
 have hal:=h.qY;have hcl:=h.qX;have hol:=h.jL;unfold q1g eF;rw[vJ FF m ff (h.sz (by omega)),bs,MX ⟨m,[]⟩ (by simp only;omega) (by simp only;omega) h.ids,bs];by_cases h0:psm=0
 ·rw[pG0 (by simpa using h0),pG0 h0];exact⟨rfl,h.more (by omega)⟩
 rw[nG0 (c:=(psm==0)=true) (by simpa using h0),nG0 h0];rw[show qz FF ru=some (je ru)from rfl,show qz FF mps=some (je mps)from rfl,show qo FF cr 0 65535=some (countB cr)from rfl,vX];cases hb1:je ru with
 | false=>exact⟨rfl,h.more (by omega)⟩
 | true=>
 cases hb2:je mps with
 | false=>exact⟨rfl,h.more (by omega)⟩
 | true=>
 cases hb3:countB cr with
 | false=>exact⟨rfl,h.more (by omega)⟩
 | true=>
 rw[nG0 (c:=(true&&(true&&true))=false) (by simp)];by_cases hu:gB m<16
 ·by_cases ho:len m.Out≥64
  ·rw[pG0 (c:=16<=gB m∨64<=m.Out.length) (.inr ((tV _).1 ho))];refine⟨?_,h.more (by omega)⟩;simp only[bs,Bool.not_true,Bool.false_eq_true,if_false,dt hu,dt ho,if_true]
  ·obtain⟨v,_,f2,f3,f4,f5⟩:=jr (m:=m) (by omega);have hs:lV (fK ⟨20,0,psm,v,0,ru,mps,cr,0,zu⟩ (uy m)):=L9 (nS h) ⟨show 1<=psm by omega,hp.2⟩ ⟨f4,f5⟩ hb1 hb2 hb3;rw[nG0 (c:=16<=gB m∨64<=m.Out.length) (by rw[← tV];omega),f2];refine⟨?_,h.nk hs (.inl ⟨rfl,f3,hu⟩)⟩;simp only[bs,Bool.not_true,Bool.false_eq_true,if_false,dt hu,decide_eq_false ho,pG0 hu,f2];have:=LC ⟨m,[]⟩ ⟨20,0,psm,v,0,ru,mps,cr,0,zu⟩ hs h.next (by simp only;omega) (by simp only;omega);rw[show(⟨20,0,psm,v,0,ru,mps,cr,0,⟨0,0,0,0,0⟩⟩:aQ)=⟨20,0,psm,v,0,ru,mps,cr,0,zu⟩from rfl,this];rfl
 ·rw[pG0 (c:=16<=gB m∨64<=m.Out.length) (.inl (by omega))];refine⟨?_,h.more (by omega)⟩;simp only[bs,Bool.not_true,Bool.false_eq_true,if_false,decide_eq_false hu,Bool.not_false,if_true]
theorem oD{k:Nat}{m:aI}(h:MInv k m)(hk:k<=900000000)(n:Int):q33 FF m n=some (uG m n)/\MInv (k+1) (uG m n).1:=by
 have hal:=h.qY;have hcl:=h.qX;have hol:=h.jL;unfold q33 uG;rw[vJ FF m ff (h.sz (by omega)),bs,Mw ⟨m,[]⟩ n (by simp only;omega) (by simp only;omega),bs,vX];rcases dQ m n with⟨hq,hl,_⟩ | ⟨i,c,hq,hl,hc,hn⟩
 ·rw[hl,hq];exact⟨rfl,h.more (by omega)⟩
 ·rw[hl,hq,nG0 (show ¬ ((i:Int)<0) by omega),bs];simp only
  by_cases hb:bR m n=true
  ·rw[pG0 hb,pG0 hb];exact⟨rfl,h.more (by omega)⟩
  ·rw[nG0 hb,nG0 hb,nG0 (by simp)];by_cases ho:len m.Out≥64
   ·rw[pG0 (dt ho),pG0 ((tV _).1 ho)];exact⟨rfl,h.more (by omega)⟩
   ·obtain⟨hs,hI⟩:=h.lX (List.mem_of_getElem? hc);rw[nG0 (df ho),nG0 (by rw[← tV];exact ho),Sn ⟨m,[]⟩ i c hc hs h.next (by simp only;omega) (by simp only;omega)];exact⟨rfl,hI⟩
theorem Vy(c:aT)(b:List Int)(hs:Sd.Sm c)(hb:b.length<=16384)(h:Sd.Ok c):q52 FF c b=some (Mj c b)/\Sd.Ok (Mj c b).1/\(Mj c b).1.ap=c.ap/\(Mj c b).1.ax=c.ax:=by
 unfold q52 q7o Mj;rw[Sd.lg FF c (by decide) hs];simp only[bs];by_cases h1:c.bd=true
 ·rw[pG0 h1,pG0 h1];exact⟨rfl,h,rfl,rfl⟩
 rw[nG0 h1,nG0 h1];have hlb:=lN b;have hlo:=lN c.Out;by_cases h2:(b.length:Int)>c.jQ
 ·rw[pG0 (c:=decide (len b>c.jQ)=true) (dt (by omega)),pG0 h2];exact⟨rfl,h,rfl,rfl⟩
 rw[nG0 (c:=decide (len b>c.jQ)=true) (df (by omega)),nG0 h2];by_cases h3:64<=c.Out.length
 ·rw[pG0 (c:=decide (len c.Out≥64)=true) (dt (by omega)),pG0 h3];exact⟨rfl,h,rfl,rfl⟩
 rw[nG0 (c:=decide (len c.Out≥64)=true) (df (by omega)),nG0 h3];have ho:=h.few;rw[zP FF [b] (by simp;decide) (by simp) (by simp;omega)];simp only[bs,List.flatten_singleton];rw[dV (by simp;omega) (by omega)];simp only[bs];refine⟨trivial,?_,trivial,trivial⟩;obtain⟨a1,a2,b1,b2,b3,b4,b5,b6,b7,a4,a5,c1,c2,c3⟩:=h;refine⟨a1,a2,b1,b2,b3,b4,b5,b6,b7,by simp only[lA,List.length_singleton];omega,fun s hs=>?_,?_,c2,c3⟩
 ·rcases List.mem_append.1 hs with hs | hs
  ·exact a5 s hs
  ·rw[mS]at hs;subst hs;show(_:Int)<=c.jQ;omega
 ·unfold Sd.lastOf at c1 ⊢;simp only
  cases hc:c.Out with
  | nil=>rw[hc]at c1;simp only[List.nil_append]at c1 ⊢;omega
  | cons s r=>rw[hc]at c1;exact c1
theorem AB{k:Nat}{m:aI}(h:MInv k m)(hk:k<=900000000)(n:Int)(b:List Int)(hb:b.length<=16384):q1n FF m n b=some (jB m n b)/\MInv (k+1) (jB m n b).1:=by
 have hal:=h.qY;have hcl:=h.qX;have hol:=h.jL;unfold q1n jB;rw[vJ FF m ff (h.sz (by omega)),bs,Mw ⟨m,[]⟩ n (by simp only;omega) (by simp only;omega),bs];rcases dQ m n with⟨hq,hl,_⟩ | ⟨i,c,hq,hl,hc,hn⟩
 ·rw[hl,hq];exact⟨rfl,h.more (by omega)⟩
 ·rw[hl,hq,nG0 (show ¬ ((i:Int)<0) by omega)];simp only
  by_cases hb':bR m n=true
  ·rw[pG0 hb',pG0 hb'];exact⟨rfl,h.more (by omega)⟩
  ·rw[nG0 hb',nG0 hb',nG0 (by simp)];have hok:=h.qW c (List.mem_of_getElem? hc);obtain⟨q1,q3,q4,q5⟩:=Vy c b hok.sm hb hok;simp only[bg hc,bs,q1];by_cases he:(Mj c b).2=0
   ·rw[nG0 (by simpa using he),pG0 he,sG hc];exact⟨rfl,(h.put hc q3 q4).more (by omega)⟩
   ·rw[pG0 (by simpa using he),nG0 he];exact⟨rfl,h.more (by omega)⟩
theorem JC{k:Nat}{m:aI}(h:MInv k m)(hk:k<=900000000)(n:Int)(b:List Int):q1m FF m n b=some (qD m n b)/\MInv (k+1) (qD m n b).1:=by
 have hol:=h.jL;unfold q1m qD;rw[vJ FF m ff (h.sz (by omega)),bs,vX];by_cases h1:n≠4/\n≠6
 ·rw[pG0 (by simpa using h1),pG0 h1];exact⟨rfl,h.more (by omega)⟩
 rw[nG0 (by simpa using h1),nG0 h1];by_cases h2:len b>4096
 ·rw[pG0 (dt h2),pG0 (by rw[lN]at h2;omega)];exact⟨rfl,h.more (by omega)⟩
 rw[nG0 (df h2),nG0 (by rw[lN]at h2;omega),bs];by_cases h3:len m.Out≥64
 ·rw[pG0 (dt h3),pG0 ((tV _).1 h3)];exact⟨rfl,h.more (by omega)⟩
 have hbl:b.length<=4096:=by rw[lN]at h2;omega
 rw[nG0 (df h3),nG0 (by rw[← tV];exact h3),AZ ⟨m,[]⟩ n b (by omega) (by simp only;omega)];exact⟨rfl,h.qd hbl (by omega)⟩
theorem xP{k:Nat}{m:aI}(h:MInv k m)(hk:k<=900000000)(u:jF):q35 FF m u=some (jX m u)/\MInv (k+1) (jX m u).1:=by
 have hal:=h.qY;have hol:=h.jL;unfold q35 jX;rw[vJ FF m ff (h.sz (by omega)),bs,vX,abp _ (by simp only;omega),Sg.Qm FF u (by have:=FFk;omega)];by_cases h1:m.iY≠1
 ·rw[pG0 (by simpa using h1),pG0 h1];exact⟨rfl,h.more (by omega)⟩
 rw[nG0 (by simpa using h1),nG0 h1];simp only[bs];by_cases h2:Sg.nM u=0
 ·rw[nG0 (c:=(Sg.nM u != 0)=true) (by simpa using h2),nG0 (c:=Sg.nM u≠0) (not_not_intro h2)];by_cases h3:(m.aB.any fun s=>s.ae==18)=true
  ·rw[pG0 h3,pG0 h3];exact⟨rfl,h.more (by omega)⟩
  rw[nG0 h3,nG0 h3];by_cases h4:len m.Out≥64
  ·rw[pG0 (dt h4),pG0 ((tV _).1 h4)];exact⟨rfl,h.more (by omega)⟩
  have hs:lV (fK ⟨18,0,0,0,0,0,0,0,0,u⟩ (uy m)):=L6 (nS h) h2;rw[nG0 (df h4),nG0 (by rw[← tV];exact h4),LC ⟨m,[]⟩ _ hs h.next (by simp only;omega) (by simp only;omega)];exact⟨rfl,h.nk hs (.inr (.inr ⟨rfl,(Bool.not_eq_true _).mp h3⟩))⟩
 ·rw[pG0 (c:=(Sg.nM u != 0)=true) (by simpa using h2),pG0 h2];exact⟨rfl,h.more (by omega)⟩
theorem AU{k:Nat}{m:aI}(h:MInv k m)(hk:k<=900000000)(id r:Int):q1o FF m id r=some (kg m id r)/\MInv (k+1) (kg m id r).1:=by
 have hol:=h.jL;unfold q1o kg;rw[vJ FF m ff (h.sz (by omega)),bs,vX,show qo FF id 1 255=some (decide (id≥1)&&decide (id<=255))from rfl];by_cases h1:m.iY≠0
 ·rw[pG0 (by simpa using h1),pG0 h1];exact⟨rfl,h.more (by omega)⟩
 rw[nG0 (by simpa using h1),nG0 h1,bs];by_cases h2:(1<=id/\id<=255)/\(r=0∨r=1)
 ·rw[nG0 (by simp;omega),nG0 (c:=¬ ((1<=id/\id<=255)/\(r=0∨r=1))) (not_not_intro h2),bs];by_cases h4:len m.Out≥64
  ·rw[pG0 (dt h4),pG0 ((tV _).1 h4)];exact⟨rfl,h.more (by omega)⟩
  have hs:lV ⟨19,id,0,0,0,0,0,0,r,zu⟩:=pU h2.1 19 (.inl ⟨rfl,h2.2⟩);have e1:=sP ⟨m,[]⟩ _ hs (by simp only;omega);unfold zu at e1;rw[nG0 (df h4),nG0 (by rw[← tV];exact h4),e1];exact⟨rfl,h.say _⟩
 ·rw[pG0 (by simp;omega),pG0 h2];exact⟨rfl,h.more (by omega)⟩
end V
namespace V
def wV(k c r:Int)(i:Int):gy:=⟨k,c,[],r,zu,i⟩
theorem Lu{s:aQ}(h:lV s)(hk:s.ae=20∨(s.ae=21/\s.Result=0)):(64<=s.am/\s.am<=127)/\(23<=s.bZ/\s.bZ<=4096)/\(23<=s.cu/\s.cu<=4096)/\(0<=s.aA/\s.aA<=65535)/\(s.ae=20->s.bQ≠0):=by
 have h0:=h.1;unfold Sg.wW at h0;split at h0
 ·cases h0
 split at h0
 ·cases h0
 split at h0
 ·cases h0
 split at h0
 ·cases h0
 rcases hk with hk | ⟨hk,hr⟩
 ·rw[nG0 (by rw[hk];simp)]at h0;split at h0
  ·cases h0
  rename_i h5;split at h0
  ·cases h0
  rename_i h6;unfold Sg.iK at h6;rw[hk]at h5 h6;simp[Sg.aJ,Sg.mo,Sg.u6]at h5 h6;refine⟨by omega,by omega,by omega,by omega,fun _=>h5⟩
 ·rw[nG0 (by rw[hr];simp)]at h0;split at h0
  ·cases h0
  split at h0
  ·cases h0
  rename_i h6;unfold Sg.iK at h6;rw[hk]at h6;simp[Sg.aJ,Sg.mo,Sg.u6]at h6;refine⟨by omega,by omega,by omega,by omega,fun e=>by omega⟩
theorem vT{s:aQ}(h:lV s):1<=s.ID/\s.ID<=255:=by
 obtain⟨_,h1,h2,_⟩:=Sg.jk h.1;exact⟨h1,h2⟩
theorem jN{id r:Int}(hi:1<=id/\id<=255)(hr:r=2∨r=4∨r=5∨r=9):lV ⟨21,id,0,0,0,0,0,0,r,zu⟩:=by
 refine⟨?_,by simp only;omega,by simp only;omega⟩;unfold Sg.wW;rw[nG0 (by simp[Sg.aJ]),nG0 (by simp;omega),nG0 (by simp[Sg.fq,Sg.aJ,Sg.wZ,zu]),nG0 (by simp[Sg.kR,Sg.aJ];omega),pG0 (by simp;omega),nG0 (by simp)]
theorem FK{id src ru mps cr:Int}(hi:1<=id/\id<=255)(hs:64<=src/\src<=127)(h1:je ru=true)(h2:je mps=true)(h3:countB cr=true):lV ⟨21,id,0,src,0,ru,mps,cr,0,zu⟩:=by
 refine⟨?_,by simp only;omega,by simp only;omega⟩;unfold je at h1 h2;unfold countB at h3;simp only[Bool.and_eq_true,decide_eq_true_eq]at h1 h2 h3;unfold Sg.wW;rw[nG0 (by simp[Sg.aJ]),nG0 (by simp;omega),nG0 (by simp[Sg.fq,Sg.aJ,Sg.wZ,zu]),nG0 (by simp[Sg.kR,Sg.aJ]),nG0 (by simp),nG0 (by simp[Sg.aJ]),nG0 (by simp[Sg.iK,Sg.aJ,Sg.mq,Sg.XU];omega),nG0 (by simp[Sg.aJ])]
theorem L8{id src cr:Int}(hi:1<=id/\id<=255)(hs:64<=src/\src<=127)(h3:1<=cr/\cr<=65535):lV ⟨22,id,0,src,0,0,0,cr,0,zu⟩:=by
 refine⟨?_,by simp only;omega,by simp only;omega⟩;unfold Sg.wW;rw[nG0 (by simp[Sg.aJ]),nG0 (by simp;omega),nG0 (by simp[Sg.fq,Sg.aJ,Sg.wZ,zu]),nG0 (by simp[Sg.kR,Sg.aJ]),nG0 (by simp),nG0 (by simp[Sg.aJ]),nG0 (by simp[Sg.iK,Sg.aJ,Sg.mq];omega),nG0 (by simp[Sg.aJ])]
theorem WH(l:List fA)(s:aQ)(hl:l.length<=1000000):q4r FF l s=some (fidx (fun o=>o.bQ==s.bQ) l,s):=by
 unfold q4r fidx;rw[kZ (p:=fun o:fA=>o.bQ==s.bQ) (l:=l) (c:=s) (g:=fun i=>(i,s)) (fun i x hx=>by
  have hlt:=(gS.1 hx).1;show q3q FF l _ _=_;unfold q3q q5r;rw[pG0 (by simp[len];omega),bg hx];simp only[bs,wN i (by omega)];split <;> rfl) (by
  show q3q FF l _ _=_;unfold q3q;rw[nG0 (by simp[len])]) (by rw[jW];omega)]
 cases l.findIdx? (fun o=>o.bQ==s.bQ) <;> rfl
theorem abx{k:Nat}{m:aI}(h:MInv k m){l c:aT}{v:Int}(hc:Sd.Ok c)(hv:c.ap=v)(hf:gL m v=false)(hu:gB m<16):MInv k { m with aj:=kM c m.aj }:=by
 have hn:∀w,gL m w=true->w≠v:=fun w hw e=>by rw[e,hf]at hw;cases hw
 refine h.add hc (fun d hd e=>?_) (fun s hs hk e=>?_) ?_
 ·exact hn d.ap ((dS m _).2 (.inl ⟨d,hd,rfl⟩)) (by rw[e,hv])
 ·exact hn s.am ((dS m _).2 (.inr ⟨s,hs,.inl hk,rfl⟩)) (by rw[e,hv])
 ·have:=Dx (m:=m) (m':={ m with aj:=kM c m.aj }) v fun w hw=>by
   rcases(LU m c w).1 hw with h | h
   ·exact .inl h
   ·exact .inr (by rw[h,hv])
  omega
end V
namespace V
theorem eZ{α:Type}{l:List α}{i:Nat}{x:α}(h:l[i]? = some x):x∈l:=List.mem_of_getElem? h
end V
namespace V
theorem Qj{x:Int}(h:Byte x):aK x=x:=by
 have:=h.1;have:=h.2;exact bP (by omega) (by omega)
end V
end Go.Proofs.YtbgfhaahhdnogaaGreat
