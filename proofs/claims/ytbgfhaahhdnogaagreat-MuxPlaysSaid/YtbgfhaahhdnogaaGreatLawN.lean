/- Numbers and bytes: what the functions of octets, and Put and -/
import Derived.Test.YtbgfhaahhdnogaaGreatLoop
import Derived.Test.YtbgfhaahhdnogaaGreatFn
import Derived.KernelRfl
namespace Go.Proofs.YtbgfhaahhdnogaaGreat
namespace V
theorem bs{α β:Type}(a:α)(f:α→Option β):(some a).bind f=f a:=rfl
theorem gE{α:Type}{l:List α}{i:Nat}(h:i<l.length):l[i]?=some l[i]:=List.getElem?_eq_getElem h
theorem lA{α:Type}{l m:List α}:(l++m).length=l.length+m.length:=List.length_append
theorem gM{α:Type}{l:List α}{i:Nat}(h:i<l.length):l[i]∈l:=List.getElem_mem h
theorem gS{α:Type}{l:List α}{i:Nat}{a:α}:l[i]?=some a↔∃h:i<l.length,l[i]=a:=List.getElem?_eq_some_iff
def FF:Nat:=1125899906842624
def Byte(x:Int):Prop:=0≤x∧x<256
def pz:Nat→Int→List Int
 | 0,_=>[]
 | k+1,n=>n % 256::pz k (n / 256)
def num:List Int→Int
 | []=>0
 | b::r=>b+256 * num r
theorem lL:∀k n,(pz k n).length=k
 | 0,_=>rfl
 | k+1,n=>by simp[pz,lL k]
theorem nk(k:Nat):(256:Int) ^ (k+1)=256 * 256 ^ k:=by rw[Int.pow_succ,Int.mul_comm]
theorem Fa(k:Nat):(0:Int)<256 ^ k:=Int.pow_pos (by decide)
theorem C8:∀(k:Nat) (n:Int),pz (k+1) n=pz k n++[n / 256 ^ k % 256]
 | 0,n=>by simp[pz]
 | k+1,n=>by
   have:=C8 k (n / 256)
   rw[pz,this,pz,List.cons_append,nk,Int.ediv_ediv_of_nonneg (by decide:(0:Int)≤256)]
theorem num_nonneg:∀{l:List Int},(∀x∈l,Byte x)→0≤num l
 | [],_=>by simp[num]
 | b::r,h=>by
   have h1:=(h b (by simp)).1
   have h2:=num_nonneg (l:=r) fun x hx=>h x (by simp[hx])
   simp only[num]; omega
theorem Ap:∀{l:List Int},(∀x∈l,Byte x)→num l<256 ^ l.length
 | [],_=>by simp[num]
 | b::r,h=>by
   have h1:=(h b (by simp)).2
   have h2:=Ap (l:=r) fun x hx=>h x (by simp[hx])
   simp only[num,List.length_cons,nk]; omega
theorem Ar:∀{l:List Int},(∀x∈l,Byte x)→pz l.length (num l)=l
 | [],_=>rfl
 | b::r,h=>by
   obtain⟨h0,h1⟩:=h b (by simp)
   have hr:=Ar (l:=r) fun x hx=>h x (by simp[hx])
   simp only[List.length_cons,pz,num]
   rw[show(b+256 * num r) % 256=b from by omega,show(b+256 * num r) / 256=num r from by omega,hr]
theorem wY:∀(l m:List Int),num (l++m)=num l+256 ^ l.length * num m
 | [],m=>by simp[num]
 | b::r,m=>by
   simp only[List.cons_append,num,List.length_cons,nk,wY r m,Int.mul_add,Int.mul_assoc]
   omega
theorem MV{n:Int}(h:0≤n):n.tmod 256=n % 256:=Int.tmod_eq_emod_of_nonneg h
theorem MW{n:Int}(h:0≤n):n.tdiv 256=n / 256:=Int.tdiv_eq_ediv_of_nonneg h
theorem jB{l m:List Int}(h:l.length+m.length≤140737488355328):app 1 l m=some (l++m):=by
 rw[bL (by omega) (by omega)]
theorem Ic(F:Nat)(size n i:Int)(l:List Int)(h0:0≤n)(h1:n<18446744073709551616)(hl:l.length≤1000000)(hi:0≤i∧i<1000)(hs:i<size):Pw F size n l i=some (.next (n / 256,l++[n % 256],i+1)):=by
 unfold Pw
 rw[if_pos (by simpa using hs)]
 simp only[uX,wP,MV h0,MW h0,wrap_u64]
 rw[EI (by omega) (by omega),jB (by simp; omega)]
 simp only[bs]
 rw[eX (by omega) (by omega),bJ (by omega) (by omega)]
theorem rz(F:Nat)(n:Int)(k:Nat)(hF:k<F)(hk:k≤8)(h0:0≤n)(h1:n<18446744073709551616):qb F n k=some (pz k n):=by
 have gen:∀(m F:Nat) (n i:Int) (l:List Int),0≤n→n<18446744073709551616→l.length≤1000 - m→m≤8→0≤i→i+m=k→m<F→iter (fun s=>Pw F (k:Int) s.1 s.2.1 s.2.2) F (n,l,i)=some (l++pz m n):=by
  intro m
  intro F
  have key:∀(m f:Nat) (n i:Int) (l:List Int),0≤n→n<18446744073709551616→l.length≤1000 - m→m≤8→0≤i→i+m=k→m<f→iter (fun s=>Pw F (k:Int) s.1 s.2.1 s.2.2) f (n,l,i)=some (l++pz m n):=by
   intro m
   induction m with
   | zero=>
     intro f n i l h0 h1 hl hm hi hik hf
     cases f with
     | zero=>omega
     | succ f=>
       rw[bE (o:=l) (by unfold Pw; rw[if_neg (by simp; omega)])]
       simp[pz]
   | succ m ih=>
     intro f n i l h0 h1 hl hm hi hik hf
     cases f with
     | zero=>omega
     | succ f=>
       rw[bH (Ic F k n i l h0 h1 (by omega) (by omega) (by omega)),ih f (n / 256) (i+1) (l++[n % 256]) (by omega) (by omega) (by simp; omega) (by omega) (by omega) (by omega) (by omega)]
       simp[pz]
  exact key m F
 unfold qb
 rw[gen k F n 0 [] h0 h1 (by simp) hk (by omega) (by omega) hF]
 simp[qat]
theorem Ai(F:Nat)(b m:List Int)(at_:Nat)(hF:m.length<F)(hb:∀x∈m,Byte x)(hm:m.length≤8)(hat:at_≤1000000)(h:∀i,i<m.length→b[at_+i]? = m[i]?):q9 F b at_ (m.length:Int)=some (num m):=by
 have key:∀(k f:Nat) (r:List Int),r.length+k=m.length→(∀i,i<r.length→m[k+i]? = r[i]?)→k<f→iter (fun s=>qy F b at_ s.1 s.2) f (num r,(k:Int) - 1)=some (num (m.take k++r)):=by
  intro k
  induction k with
  | zero=>
    intro f r hr _ hf
    cases f with
    | zero=>omega
    | succ f=>
      rw[bE (o:=num r) (by unfold qy; rw[if_neg (by simp)])]
      simp
  | succ k ih=>
    intro f r hr hri hf
    cases f with
    | zero=>omega
    | succ f=>
      have hk:k<m.length:=by omega
      have hx:m[k]? = some m[k]:=gE hk
      have hbx:=hb m[k] (gM hk)
      have hrb:∀x∈r,Byte x:=by
       intro x hx
       obtain⟨i,hi⟩:=List.getElem?_of_mem hx
       have hil:=(gS.1 hi).1
       rw[← hri i hil]at hi
       exact hb x (List.mem_of_getElem? hi)
      have hn0:=num_nonneg hrb
      have hn1:=Ap hrb
      have hpow:(256:Int) ^ r.length≤256 ^ 7:=by
       have h2:(256:Nat) ^ r.length≤256 ^ 7:=Nat.pow_le_pow_right (by decide) (by omega)
       have h3:((256 ^ r.length:Nat):Int)≤((256 ^ 7:Nat):Int):=Int.ofNat_le.2 h2
       rw[Int.natCast_pow,Int.natCast_pow]at h3
       exact h3
      have hidx:idx b (aH ((at_:Int)+((k+1:Nat) - 1:Int)))=some m[k]:=by
       rw[show(at_:Int)+(((k+1:Nat):Int) - 1)=((at_+k:Nat):Int)from by omega,bJ (by omega) (by omega),dN,h k hk,hx]
      have hstep:qy F b at_ (num r) (((k+1:Nat):Int) - 1)=some (.next (num (m[k]::r),(k:Int) - 1)):=by
       unfold qy
       rw[if_pos (by simp),hidx]
       simp only[bs,num]
       obtain⟨hb0,hb1⟩:=hbx
       rw[eX (x:=num r * 256) (by omega) (by omega),eX (x:=m[k]) (by omega) (by omega),eX (by omega) (by omega),bJ (by omega) (by omega)]
       congr 3 <;> omega
      rw[bH hstep,ih f (m[k]::r) (by simp; omega) (by
       intro i hi
       cases i with
       | zero=>simp
       | succ i=>
         have:=hri i (by simp at hi; omega)
         rw[show k+(i+1)=k+1+i from by omega]
         simpa using this) (by omega)]
      rw[List.take_add_one,hx,List.append_assoc]
      rfl
 unfold q9
 rw[bJ (by omega) (by omega)]
 have:=key m.length F [] (by simp) (by simp) hF
 simp only[num,List.take_length,List.append_nil]at this
 rw[this]
 rfl
theorem jV(F:Nat)(l:List Int):qk F l l=some true:=by simp[qk]
theorem join_step(F:Nat)(ps:List (List Int))(l:List Int)(i:Nat)(x:List Int)(hx:ps[i]? = some x)(hl:l.length+x.length≤140737488355328)(hi:ps.length≤9000000000000000000):qp F ps l i=some (.next (l++x,((i+1:Nat):Int))):=by
 have hlt:i<ps.length:=(gS.1 hx).1
 unfold qp
 have hd:decide ((i:Int)<len ps)=true:=by simp[len]; omega
 rw[if_pos hd,dN,hx]
 simp only[bs]
 rw[jB hl]
 simp only[bs]
 rw[wN i (by omega)]
theorem xI(F:Nat)(a b:List Int)(hF:2<F)(h:a.length+b.length≤140737488355328):qa F [a,b]=some (a++b):=by
 unfold qa
 obtain⟨F',rfl⟩:∃F',F=F'+1+1+1:=⟨F - 3,by omega⟩
 have h1:qp (F'+1+1+1) [a,b] [] 0=some (.next (a,1)):=by simpa using join_step (F'+1+1+1) [a,b] [] 0 a rfl (by simp; omega) (by simp)
 have h2:qp (F'+1+1+1) [a,b] a 1=some (.next (a++b,2)):=by simpa using join_step (F'+1+1+1) [a,b] a 1 b rfl (by omega) (by simp)
 rw[bH h1,bH h2,bE (o:=a++b) (by unfold qp; rw[if_neg (by simp[len])])]
 rfl
theorem join_one(F:Nat)(a:List Int)(hF:1<F)(h:a.length≤140737488355328):qa F [a]=some a:=by
 unfold qa
 obtain⟨F',rfl⟩:∃F',F=F'+1+1:=⟨F - 2,by omega⟩
 have h1:qp (F'+1+1) [a] [] 0=some (.next (a,1)):=by simpa using join_step (F'+1+1) [a] [] 0 a rfl (by simp; omega) (by simp)
 rw[bH h1,bE (o:=a) (by unfold qp; rw[if_neg (by simp[len])])]
 rfl
theorem yZ{v:Int}(i:Nat)(hi:i≤8)(_h0:0≤v):Df .u64 v (aH (8 * i))=some (v / 256 ^ i):=by
 rw[bJ (by omega) (by omega)]
 unfold Df
 rw[if_neg (by omega)]
 have h1:min (8 * (i:Int)).toNat IntKind.u64.bits=8 * i:=by
  show min (8 * (i:Int)).toNat 64=8 * i
  omega
 rw[h1,show(2:Int) ^ (8 * i)=256 ^ i from by rw[Int.pow_mul]; rfl,Int.fdiv_eq_ediv_of_nonneg _ (Int.le_of_lt (Fa i))]
structure vT(f:oN):Prop where
 s0:1≤f.Size
 s1:f.Size≤8
 v0:0≤f.Value
 v1:f.Value<18446744073709551616
 v2:f.Value<256 ^ f.Size.toNat
theorem N7(F:Nat)(x:oN)(hx:vT x)(l:List Int)(hl:l.length≤1000000)(hF:9<F):iter (fun s=>NQ F x s.1 s.2) F (l,0)=some (l++pz x.Size.toNat x.Value):=by
 obtain⟨s0,s1,v0,v1,v2⟩:=hx
 have:=dF (body:=fun s:List Int×Int=>NQ F x s.1 s.2) (fun i=>(l++pz i x.Value,(i:Int))) x.Size.toNat (l++pz x.Size.toNat x.Value) (by
  intro i hi
  show NQ F x (l++pz i x.Value) i=_
  unfold NQ
  rw[if_pos (by simp; omega),yZ i (by omega) v0]
  simp only[bs]
  rw[jB (by simp[lL]; omega)]
  simp only[bs]
  rw[wN i (by omega),C8,List.append_assoc]
  rfl) (by
  show NQ F x _ _=_
  unfold NQ
  rw[if_neg (by simp; omega)]) F 0 (by omega) (by omega)
 simpa [pz]using this
def jl(fs:List oN):List Int:=(fs.map fun f=>pz f.Size.toNat f.Value).flatten
theorem wS:∀{fs:List oN},(∀f∈fs,vT f)→(jl fs).length≤8 * fs.length
 | [],_=>by simp[jl]
 | f::fs,h=>by
   have h1:=h f (by simp)
   have h2:=wS (fs:=fs) fun g hg=>h g (by simp[hg])
   obtain⟨s0,s1,_⟩:=h1
   simp only[jl,List.map_cons,List.flatten_cons,lA,lL,List.length_cons]at h2 ⊢
   omega
theorem Gp(F:Nat)(fs:List oN)(h:∀f∈fs,vT f)(hn:fs.length≤1000)(hF:fs.length+9<F):WR F fs=some (jl fs,0):=by
 unfold WR
 have:=dF (body:=fun s:List Int×Int=>PZ F fs s.1 s.2) (fun i=>(jl (fs.take i),(i:Int))) fs.length (.inl (jl fs)) (by
  intro i hi
  have hx:fs[i]? = some fs[i]:=gE hi
  have hf:=h fs[i] (gM hi)
  have hlen:=wS (fs:=fs.take i) (fun f hf=>h f (List.mem_of_mem_take hf))
  have htl:(fs.take i).length≤i:=by simp; omega
  show PZ F fs (jl (fs.take i)) i=_
  unfold PZ
  rw[if_pos (by simp[len]; omega),dN,hx]
  simp only[bs,WT]
  obtain⟨s0,s1,v0,v1,v2⟩:=hf
  have hsz:(!(decide (fs[i].Size≥1)&&decide (fs[i].Size≤8)))=false:=by simp; omega
  rw[hsz]
  simp only[Bool.false_eq_true,if_false]
  have hz:((if decide (fs[i].Size<8)=true then(Df IntKind.u64 fs[i].Value (aH (8 * fs[i].Size))).bind fun gL=>some (gL != 0)else some false))=some false:=by
   by_cases h8:fs[i].Size<8
   ·rw[if_pos (by simpa using h8)]
    have:=yZ (v:=fs[i].Value) fs[i].Size.toNat (by omega) v0
    rw[show((fs[i].Size.toNat:Nat):Int)=fs[i].Size from by omega]at this
    rw[this,Int.ediv_eq_zero_of_lt v0 v2]
    rfl
   ·rw[if_neg (by simpa using h8)]
  rw[hz]
  simp only[bs,Bool.false_eq_true,if_false]
  rw[N7 F fs[i] ⟨s0,s1,v0,v1,v2⟩ _ (by omega) (by omega)]
  simp only[bs,q9h]
  rw[wN i (by omega),List.take_add_one,hx]
  simp only[jl,List.map_append,List.flatten_append,Option.toList_some,List.map_cons,List.map_nil,List.flatten_cons,List.flatten_nil,List.append_nil]) (by
  show PZ F fs _ _=_
  unfold PZ
  rw[if_neg (by simp[len]),List.take_length]) F 0 (by omega) (by omega)
 simp only[List.take_zero]at this
 have h0:(jl [],((0:Nat):Int))=(([]:List Int),(0:Int)):=rfl
 rw[h0]at this
 rw[this]
 rfl
end V
end Go.Proofs.YtbgfhaahhdnogaaGreat

namespace Go.Proofs.YtbgfhaahhdnogaaGreat
namespace V
theorem xg(a b i:Nat)(ha:a<2 ^ i):a ||| (b * 2 ^ i)=a+b * 2 ^ i:=by
 have h:=Nat.shiftLeft_add_eq_or_of_lt ha b
 rw[Nat.shiftLeft_eq]at h
 rw[Nat.or_comm,← h,Nat.add_comm]
theorem KE(i:Nat):(256:Int) ^ i=((2 ^ (8 * i):Nat):Int):=by
 rw[Nat.pow_mul,show(2:Nat) ^ 8=256 from by decide]
 exact(congrArg (fun z:Int=>z ^ i) (rfl:(256:Int)=((256:Nat):Int))).trans (Int.natCast_pow 256 i).symm
theorem Oy(a b:Int)(i:Nat)(hi:i<8)(h0:0≤a)(h1:a<256 ^ i)(h2:Byte b):qF .u64 a (b * 256 ^ i)=a+b * 256 ^ i:=by
 obtain⟨b0,b1⟩:=h2
 obtain⟨a,rfl⟩:=Int.eq_ofNat_of_zero_le h0
 obtain⟨b,rfl⟩:=Int.eq_ofNat_of_zero_le b0
 have hp:=KE i
 rw[hp]at h1 ⊢
 have ha:a<2 ^ (8 * i):=by exact_mod_cast h1
 have hb:b<256:=by omega
 have hle:(2:Nat) ^ (8 * i)≤2 ^ 56:=Nat.pow_le_pow_right (by decide) (by omega)
 have hbl:b * 2 ^ (8 * i)<2 ^ 64:=by
  have:b * 2 ^ (8 * i)≤255 * 2 ^ 56:=Nat.mul_le_mul (by omega) hle
  omega
 have hs:a+b * 2 ^ (8 * i)<2 ^ 64:=by
  have:(b+1) * 2 ^ (8 * i)≤256 * 2 ^ 56:=Nat.mul_le_mul (by omega) hle
  rw[Nat.add_mul]at this
  omega
 unfold qF
 have e:((b:Int) * ((2 ^ (8 * i):Nat):Int))=((b * 2 ^ (8 * i):Nat):Int):=by rw[Int.natCast_mul]
 have e2:(BitVec.ofInt IntKind.u64.bits (a:Int) ||| BitVec.ofInt IntKind.u64.bits ((b:Int) * ((2 ^ (8 * i):Nat):Int))).toNat=a+b * 2 ^ (8 * i):=by
  rw[e,BitVec.toNat_or]
  show(BitVec.ofInt 64 (a:Int)).toNat ||| (BitVec.ofInt 64 ((b * 2 ^ (8 * i):Nat):Int)).toNat=_
  rw[BitVec.toNat_ofInt,BitVec.toNat_ofInt]
  rw[show(((a:Nat):Int) % ((2 ^ 64:Nat):Int)).toNat=a from by rw[← Int.natCast_emod,Int.toNat_natCast,Nat.mod_eq_of_lt (by omega)]]
  rw[show(((b * 2 ^ (8 * i):Nat):Int) % ((2 ^ 64:Nat):Int)).toNat=b * 2 ^ (8 * i)from by rw[← Int.natCast_emod,Int.toNat_natCast,Nat.mod_eq_of_lt hbl]]
  exact xg a b (8 * i) ha
 rw[e2,wrap_u64]
 unfold wu64
 rw[Int.natCast_add,Int.natCast_mul]
 rw[show((a:Int)+(b:Int) * ((2 ^ (8 * i):Nat):Int))=((a+b * 2 ^ (8 * i):Nat):Int)from by rw[Int.natCast_add,Int.natCast_mul]]
 omega
theorem CO(i:Nat):(2:Int) ^ (8 * i)=((2 ^ (8 * i):Nat):Int):=(congrArg (fun z:Int=>z ^ (8 * i)) (rfl:(2:Int)=((2:Nat):Int))).trans (Int.natCast_pow 2 (8 * i)).symm
theorem Rt(x i:Nat)(h1:(x:Int)<256)(hi:i<8):x * 2 ^ (8 * i)≤255 * 2 ^ 56:=by
 have hle:(2:Nat) ^ (8 * i)≤2 ^ 56:=Nat.pow_le_pow_right (by decide) (by omega)
 exact Nat.mul_le_mul (by omega) hle
theorem MS(q:Nat)(hb:q≤255 * 2 ^ 56):wu64 (q:Int)=q:=by
 rw[eX (by omega) (by omega)]
theorem JV(x i:Nat)(hi:i<8):Dh .u64 (x:Int) (8 * i)=some (IntKind.u64.wrap ((x:Int) * 2 ^ (8 * i))):=by
 unfold Dh
 rw[if_neg (by omega)]
 have e1:min (8 * (i:Int)).toNat IntKind.u64.bits=8 * i:=by
  show min (8 * (i:Int)).toNat 64=8 * i
  omega
 rw[e1]
theorem Hu{x:Int}(hx:Byte x)(i:Nat)(hi:i<8):Dh .u64 (wu64 x) (aH (8 * i))=some (x * 256 ^ i):=by
 obtain⟨h0,h1⟩:=hx
 obtain⟨x,rfl⟩:=Int.eq_ofNat_of_zero_le h0
 have e1:aH (8 * (i:Int))=8 * i:=bJ (by omega) (by omega)
 have e2:wu64 (x:Int)=x:=eX (by omega) (by omega)
 have e3:=MS _ (Rt x i h1 hi)
 rw[Int.natCast_mul,← CO]at e3
 have e4:(256:Int) ^ i=2 ^ (8 * i):=(KE i).trans (CO i).symm
 rw[e1,e2,JV x i hi,wrap_u64,e3,e4]
theorem Rl(F:Nat)(b:List Int)(k i:Nat)(a p:Int)(x:Int)(hc:decide ((i:Int)<(k:Int))=true)(hx:b[i]? = some x)(hw:aH ((i:Int)+1)=((i+1:Nat):Int))(hs:Dh .u64 (wu64 x) (aH (8 * (i:Int)))=some p)(ho:qF .u64 a p=a+p):MJ F b k a i=some (.next (a+p,((i+1:Nat):Int))):=by
 unfold MJ
 rw[if_pos hc,dN,hx,bs,hs,bs,ho,hw]
theorem KP(b:List Int)(i:Nat)(x:Int)(hx:b[i]? = some x)(hlen:(b.take i).length=i):num (b.take (i+1))=num (b.take i)+x * 256 ^ i:=by
 rw[List.take_add_one,hx,wY,hlen,Int.mul_comm x]
 simp only[Option.toList_some,num,Int.mul_zero,Int.add_zero]
theorem MZ{b:List Int}{i:Nat}(ht:∀x∈b.take i,Byte x)(hlen:(b.take i).length=i):num (b.take i)<256 ^ i:=by
 have h:=Ap ht
 rw[hlen]at h
 exact h
theorem VF(F:Nat)(b:List Int)(k i:Nat)(hi8:i<8)(hin:i<9223372036854775807)(hc:decide ((i:Int)<(k:Int))=true)(x:Int)(hx:b[i]? = some x)(hbx:Byte x)(ht:∀x∈b.take i,Byte x)(hlen:(b.take i).length=i):MJ F b k (num (b.take i)) i=some (.next (num (b.take (i+1)),((i+1:Nat):Int))):=
 (Rl F b k i (num (b.take i)) (x * 256 ^ i) x hc hx (wN i hin) (Hu hbx i hi8) (Oy _ _ i hi8 (num_nonneg ht) (MZ ht hlen) hbx)).trans (by rw[KP b i x hx hlen])
theorem M0(F:Nat)(b:List Int)(k:Nat)(hk:k≤8)(hl:k≤b.length)(hb:∀x∈b,Byte x)(hF:9<F):iter (fun s=>MJ F b k s.1 s.2) F (0,0)=some (num (b.take k)):=by
 have:=dF (body:=fun s:Int×Int=>MJ F b k s.1 s.2) (fun i=>(num (b.take i),(i:Int))) k (num (b.take k)) (fun i hi=>by
  have hil:i<b.length:=by omega
  exact VF F b k i (by omega) (by omega) (decide_eq_true (by omega)) b[i] (gE hil) (hb _ (gM hil)) (fun x hx=>hb x (List.mem_of_mem_take hx)) (by simp; omega)) (by
  show MJ F b k _ _=_
  unfold MJ
  rw[if_neg (by simp)]) F 0 (by omega) (by omega)
 exact this
def fH:List Int→List Nat→List Int
 | _,[]=>[]
 | b,k::ks=>num (b.take k)::fH (b.drop k) ks
def iw(ks:List Nat):List Int:=ks.map fun(k:Nat)=>(k:Int)
def eu:List Nat→Nat
 | []=>0
 | k::ks=>k+eu ks
theorem jE:∀a b,eu (a++b)=eu a+eu b
 | [],b=>by simp[eu]
 | x::a,b=>by simp[eu,jE a b]; omega
theorem yT:∀(ks:List Nat) (b:List Int),(fH b ks).length=ks.length
 | [],_=>rfl
 | k::ks,b=>by simp[fH,yT ks]
theorem qM:∀(a c:List Nat) (b:List Int),fH b (a++c)=fH b a++fH (b.drop (eu a)) c
 | [],c,b=>by simp[fH,eu]
 | k::a,c,b=>by simp[fH,eu,qM a c,List.drop_drop]
theorem M4{ks:List Nat}(h:∀k∈ks,1≤k∧k≤8):eu ks≤8 * ks.length:=by
 induction ks with
 | nil=>simp[eu]
 | cons k ks ih=>
   have h1:=h k (by simp)
   have h2:=ih fun k hk=>h k (by simp[hk])
   simp[eu]; omega
theorem Cc(F:Nat)(ks:List Nat)(h:∀k∈ks,1≤k∧k≤8)(hn:ks.length≤1000)(hF:ks.length<F):iter (fun s=>NM F (iw ks) s.1 s.2) F (0,0)=some (.inl (eu ks:Int)):=by
 have:=dF (body:=fun s:Int×Int=>NM F (iw ks) s.1 s.2) (fun i=>((eu (ks.take i):Int),(i:Int))) ks.length (.inl (eu ks:Int)) (by
  intro i hi
  have hx:ks[i]? = some ks[i]:=gE hi
  have hk:=h ks[i] (gM hi)
  have hs:=M4 (ks:=ks.take i) fun k hk=>h k (List.mem_of_mem_take hk)
  have hlen:(ks.take i).length≤i:=by simp; omega
  show NM F (iw ks) (eu (ks.take i):Int) i=_
  unfold NM
  rw[if_pos (by simp[len,iw]; omega),dN]
  simp only[iw,List.getElem?_map,hx,Option.map_some,bs,WT]
  rw[if_neg (by simp; omega),wN i (by omega),bJ (by omega) (by omega),List.take_add_one,hx,jE]
  simp[eu]) (by
  show NM F (iw ks) _ _=_
  unfold NM
  rw[if_neg (by simp[len,iw]),List.take_length]) F 0 (by omega) (by omega)
 simpa [eu]using this
theorem MX(F:Nat)(b:List Int)(ks:List Nat)(h:∀k∈ks,1≤k∧k≤8)(hn:ks.length≤1000)(hF:ks.length+9<F)(hb:∀x∈b,Byte x)(hbl:b.length≤140737488355328)(hl:eu ks≤b.length):UQ F b (iw ks)=some (fH b ks,b.drop (eu ks),0):=by
 unfold UQ
 rw[Cc F ks h hn (by omega)]
 simp only[bs,Zi]
 rw[if_neg (by simp[len]; omega)]
 have:=dF (body:=fun s:List Int×List Int×Int=>PU F (iw ks) s.1 s.2.1 s.2.2) (fun i=>(b.drop (eu (ks.take i)),fH b (ks.take i),(i:Int))) ks.length (b.drop (eu ks),fH b ks) (by
  intro i hi
  have hx:ks[i]? = some ks[i]:=gE hi
  have hk:=h ks[i] (gM hi)
  have hsum:eu (ks.take i)+ks[i]≤eu ks:=by
   have e1:eu (ks.take (i+1))=eu (ks.take i)+ks[i]:=by rw[List.take_add_one,hx,jE]; simp[eu]
   have e2:eu ks=eu (ks.take (i+1))+eu (ks.drop (i+1)):=by rw[← jE,List.take_append_drop]
   omega
  have hlen:(ks.take i).length≤i:=by simp; omega
  show PU F (iw ks) (b.drop (eu (ks.take i))) (fH b (ks.take i)) i=_
  unfold PU
  rw[if_pos (by simp[len,iw]; omega),dN]
  simp only[iw,List.getElem?_map,hx,Option.map_some,bs]
  rw[M0 F (b.drop (eu (ks.take i))) ks[i] hk.2 (by simp; omega) (fun x hx=>hb x (List.mem_of_mem_drop hx)) (by omega)]
  simp only[bs,q9v]
  rw[bL (by rw[yT]; simp; omega) (by decide)]
  simp only[bs]
  have hs:=gB (b.drop (eu (ks.take i))) ks[i] (b.drop (eu (ks.take i))).length (by simp; omega) (by omega)
  rw[lN,hs]
  simp only[bs,q9u,List.take_length,List.drop_drop]
  rw[wN i (by omega),List.take_add_one,hx,jE,qM]
  simp[eu,fH]) (by
  show PU F (iw ks) _ _ _=_
  unfold PU
  rw[if_neg (by simp[len,iw]),List.take_length]) F 0 (by omega) (by omega)
 simp only[List.take_zero,eu,List.drop_zero,fH]at this
 have h0:((0:Nat):Int)=0:=rfl
 rw[h0]at this
 rw[this]
 simp only[bs,q9t]
 rw[join_one F _ (by omega) (by simp; omega)]
 rfl
theorem EL(F:Nat)(b:List Int)(ks:List Nat)(h:∀k∈ks,1≤k∧k≤8)(hn:ks.length≤1000)(hF:ks.length+9<F)(hl:b.length<eu ks):UQ F b (iw ks)=some ([],[],3):=by
 unfold UQ
 rw[Cc F ks h hn (by omega)]
 simp only[bs,Zi]
 rw[if_pos (by simp[len]; omega)]
end V
end Go.Proofs.YtbgfhaahhdnogaaGreat

namespace Go.Proofs.YtbgfhaahhdnogaaGreat
namespace V
namespace Sg
theorem kinds(k:Int):k=1∨k=6∨k=7∨k=18∨k=19∨k=20∨k=21∨k=22∨(k≠1∧k≠6∧k≠7∧k≠18∧k≠19∧k≠20∧k≠21∧k≠22):=by omega
def aI(k:Int):sj:=
 if k=1∨k=19 then⟨true,false,false,false,false,false,true,false⟩
 else if k=6∨k=7 then⟨true,false,true,true,false,false,false,false⟩
 else if k=18 then⟨true,false,false,false,false,false,false,true⟩
 else if k=20 then⟨true,true,true,false,true,true,false,false⟩
 else if k=21 then⟨true,false,true,false,true,true,true,false⟩
 else if k=22 then⟨true,false,true,false,false,true,false,false⟩
 else⟨false,false,false,false,false,false,false,false⟩
theorem fJ(F:Nat)(k:Int):qm F k=some (aI k):=by
 rcases kinds k with rfl | rfl | rfl | rfl | rfl | rfl | rfl | rfl | h
 any_goals rfl
 obtain⟨h1,h2,h3,h4,h5,h6,h7,h8⟩:=h
 simp[qm,Y8,Y9,aI,h1,h2,h3,h4,h5,h6,h7,h8]
theorem xH(F:Nat)(k:Int):WX F k=some (aI k).Known:=by
 rcases kinds k with rfl | rfl | rfl | rfl | rfl | rfl | rfl | rfl | h
 any_goals rfl
 obtain⟨h1,h2,h3,h4,h5,h6,h7,h8⟩:=h
 simp[WX,ML,aI,h1,h2,h3,h4,h5,h6,h7,h8]
def wo(u:fD):Bool:=((u.aU == 0)&&((u.aL == 0)&&((u.Interval == 0)&&((u.aV == 0)&&(u.Timeout == 0)))))
def fG(s:aO):Bool:=
 ((aI s.Kind).bg||s.bg == 0)&&((aI s.Kind).Source||s.Source == 0)&&((aI s.Kind).aT||s.aT == 0)&&((aI s.Kind).kS||(s.bA == 0&&s.bC == 0))&&((aI s.Kind).au||s.au == 0)&&((aI s.Kind).Result||s.Result == 0) &&
   ((aI s.Kind).Update||wo s.Update)
theorem na(a:Bool)(x:Int):((!a)&&(x != 0)) = !(a||(x == 0)):=by cases a <;> simp[bne]
theorem nb(a:Bool)(x y:Int):((!a)&&((x != 0)||(y != 0))) = !(a||((x == 0)&&(y == 0))):=by cases a <;> simp[bne,Bool.not_and]
theorem Ca:∀p1 p2 p3 p4 p5 p6 u q:Bool,(if (((!p1 || !p2) || !p3) || !p4)=true then some false else(if (p5&&p6)=true then(if u=true then some true else some q)else some false).bind fun qI=>some qI)=some (p1&&p2&&p3&&p4&&p5&&p6&&(u||q)):=by decide
theorem Hg(F:Nat)(s:aO):ZY F s=some (fG s):=by
 unfold ZY fG
 rw[fJ]
 simp only[bs]
 rw[na,na,na,nb]
 exact Ca _ _ _ _ _ _ _ _
theorem Ae(F:Nat)(s:aO):∃x,q5a F s=some x∧((s.Kind == x.Kind)&&((s.ID == x.ID)&&((s.bg == x.bg)&&((s.Source == x.Source)&&((s.aT == x.aT)&&((s.bA == x.bA)&&((s.bC == x.bC)&&((s.au == x.au)&&((s.Result == x.Result)&&((s.Update.aU == x.Update.aU)&&((s.Update.aL == x.Update.aL)&&((s.Update.Interval == x.Update.Interval)&&((s.Update.aV == x.Update.aV)&&(s.Update.Timeout == x.Update.Timeout))))))))))))))=fG s:=by
 obtain⟨k,id,p,so,de,mt,mp,cr,re,⟨u1,u2,u3,u4,u5⟩⟩:=s
 rcases kinds k with rfl | rfl | rfl | rfl | rfl | rfl | rfl | rfl | h
 any_goals
  refine⟨_,rfl,?_⟩
  simp[fG,aI,wo,Bool.and_assoc]
 ·obtain⟨h1,h2,h3,h4,h5,h6,h7,h8⟩:=h
  refine⟨_,by simp only[q5a,h1,h2,h3,h4,h5,h6,h7,h8,beq_iff_eq,if_false]; rfl,?_⟩
  simp[fG,aI,wo,Bool.and_assoc,h1,h2,h3,h4,h5,h6,h7,h8]
def iJ(s:aO):Bool:=!(aI s.Kind).Result||(if s.Kind=1 then((s.Result == 0)||(s.Result == 2))else if s.Kind=19 then((s.Result == 0)||(s.Result == 1))else(((((s.Result == 0)||(s.Result == 2))||(s.Result == 4))||(s.Result == 5))||(s.Result == 9)))
theorem Ie(F:Nat)(s:aO):Ws F s=some (iJ s):=by
 obtain⟨k,id,p,so,de,mt,mp,cr,re,u⟩:=s
 rcases kinds k with rfl | rfl | rfl | rfl | rfl | rfl | rfl | rfl | h
 any_goals rfl
 ·simp only[Ws,Sc,iJ,aI]
  cases h0:re == 0 <;> cases h1:re == 2 <;> cases h2:re == 4 <;> cases h3:re == 5 <;> simp
  by_cases h9:re=9 <;> simp[h9]
 ·obtain⟨h1,h2,h3,h4,h5,h6,h7,h8⟩:=h
  simp[Ws,iJ,aI,h1,h2,h3,h4,h5,h6,h7,h8]
theorem Di(F:Nat)(s:aO):(if (aI s.Kind).Result=true then(q81 F s.Kind s.Result).bind fun x=>some (!x)else some false)=some (!iJ s):=by
 obtain⟨k,id,p,so,de,mt,mp,cr,re,u⟩:=s
 rcases kinds k with rfl | rfl | rfl | rfl | rfl | rfl | rfl | rfl | h
 any_goals rfl
 ·obtain⟨h1,h2,h3,h4,h5,h6,h7,h8⟩:=h
  simp[iJ,aI,h1,h2,h3,h4,h5,h6,h7,h8]
def mQ(n:Int):Bool:=(decide (n≥64))&&(decide (n≤127))
def Nb(n:Int):Bool:=(decide (n≥23))&&(decide (n≤4096))
def fV(s:aO):Bool:=(!(aI s.Kind).Source||mQ s.Source)&&(!(aI s.Kind).aT||mQ s.aT)&&(!(aI s.Kind).kS||(Nb s.bA&&Nb s.bC))&&(!(aI s.Kind).au||((decide (s.au≥(if s.Kind=22 then 1 else 0)))&&(decide (s.au≤65535))))
theorem Ih(F:Nat)(s:aO):NU F s=some (fV s):=by
 obtain⟨k,id,p,so,de,mt,mp,cr,re,u⟩:=s
 rcases kinds k with rfl | rfl | rfl | rfl | rfl | rfl | rfl | rfl | h
 ·rfl
 ·simp only[NU,NR,qq,fV,aI,mQ]
  cases (decide (so≥64))&&(decide (so≤127)) <;> simp
 ·simp only[NU,NR,qq,fV,aI,mQ]
  cases (decide (so≥64))&&(decide (so≤127)) <;> simp
 ·rfl
 ·rfl
 ·simp only[NU,NR,Sb,qq,WW,fV,aI,mQ,Nb]
  cases (decide (so≥64))&&(decide (so≤127)) <;> cases (decide (mt≥23))&&(decide (mt≤4096)) <;> simp[Bool.and_assoc]
 ·simp only[NU,NR,Sb,qq,WW,fV,aI,mQ,Nb]
  cases (decide (so≥64))&&(decide (so≤127)) <;> cases (decide (mt≥23))&&(decide (mt≤4096)) <;> simp[Bool.and_assoc]
 ·simp only[NU,NR,Sb,qq,fV,aI,mQ]
  simp[Bool.and_assoc]
 ·obtain⟨h1,h2,h3,h4,h5,h6,h7,h8⟩:=h
  simp[NU,NR,Sb,fV,aI,h1,h2,h3,h4,h5,h6,h7,h8]
theorem Ay:∀b c d e x1 x2 x3 x4 q:Bool,((if b=true then(some x1).bind fun jh=>some !jh else some false).bind fun qI=>
 (if qI=true then some true else if c=true then(some x2).bind fun eZ=>some !eZ else some false).bind fun QA=>
   (if QA=true then some true else if d=true then(some x3).bind fun gI=>if (!gI)=true then some true else(some x4).bind fun iG=>some !iG else some false).bind fun yR=>
     if yR=true then some false else some (!e||q))=some ((!b||x1)&&(!c||x2)&&(!d||x3&&x4)&&(!e||q)):=by decide
theorem FH(F:Nat)(s:aO):ZX F s=some (fV s):=by
 unfold ZX fV
 rw[fJ,bs]
 have hc:∀n,q4t F n=some (mQ n):=fun _=>rfl
 have hz:∀n,q4u F n=some (Nb n):=fun _=>rfl
 have hj:∀x,(if (s.Kind == 22)=true then V5 F s x 1 else V5 F s x 0)=some ((!x.au)||((decide (s.au≥(if s.Kind=22 then 1 else 0)))&&(decide (s.au≤65535)))):=by
  intro x
  by_cases hk:s.Kind=22
  ·rw[if_pos (by simp[hk]),if_pos hk]; rfl
  ·rw[if_neg (by simp[hk]),if_neg hk]; rfl
 rw[hj]
 simp only[hc,hz]
 exact Ay _ _ _ _ _ _ _ _ _
def j3(p:su):Bool:=!((decide (p.n<p.low))||(decide (p.n > p.high)))
theorem G7(F:Nat)(l:List su)(hF:l.length<F)(hl:l.length≤1000):q5b F l=some (l.all j3):=by
 unfold q5b
 have:=xM (body:=fun s=>P5 F l s) (l:=l) (p:=fun p=>!j3 p) (o:=.inr false) (e:=.inl ()) (fun i x hx=>by
  have hlt:=(gS.1 hx).1
  show P5 F l i=_
  unfold P5
  rw[if_pos (by simp[len]; omega),dN,hx]
  simp only[bs,j3,Bool.not_not]
  rw[wN i (by omega)]
  split <;> rfl) (by
  show P5 F l _=_
  unfold P5
  rw[if_neg (by simp[len])]) F 0 (by omega) (by omega)
 rw[show((0:Nat):Int)=0 from rfl]at this
 rw[this]
 simp only[bs,List.drop_zero]
 have h2:(l.any fun p=>!j3 p) = !(l.all j3):=by
  rw[List.any_eq_not_all_not]
  simp
 rw[h2]
 cases l.all j3 <;> rfl
def jO(u:fD):Int:=
 if ([(⟨u.aU,1,8⟩:su),⟨u.aL,0,3200⟩,⟨u.Interval,6,3200⟩,⟨u.aV,0,499⟩,⟨u.Timeout,10,3200⟩].all j3)=false then 5 else
 if (((decide (u.aU≥u.Interval))||(decide (u.aL > u.Interval)))||(decide ((aH (u.Timeout * 10000))≤(aH ((aH ((aH (2 * (aH (u.aV+1)))) * u.Interval)) * 1250)))))=true then 11 else 0
theorem JL(F:Nat)(u:fD)(hF:5<F):WV F u=some (jO u):=by
 unfold WV jO
 rw[G7 F _ (by simpa using hF) (by simp)]
 simp only[bs]
 generalize List.all _ j3=b
 cases b <;> simp <;> split <;> rfl
theorem CJ:∀x1 x2 x3 x4 x5 w:Bool,((some x1).bind fun x_2=>
 (if (!x_2)=true then some (true)else(some x2).bind fun eG=>some ((!eG))).bind fun qI=>
 (if qI=true then some (true)else(some x3).bind fun gL=>some ((!gL))).bind fun QA=>
 (if QA=true then some (true)else(some x4).bind fun iG=>some ((!iG))).bind fun yR=>
 (if yR=true then some (true)else(some x5).bind fun gI=>some ((!gI))).bind fun vU=>
 if vU=true then some (5:Int)else if w=true then some 11 else some 0)=some (if (x1&&(x2&&(x3&&(x4&&x5))))=false then 5 else if w=true then 11 else 0):=by decide
theorem zk(F:Nat)(u:fD):Wv F u=some (jO u):=by
 have hs:∀n a b,j3 ⟨n,a,b⟩=((decide (n≥a))&&(decide (n≤b))):=by
  intro n a b
  unfold j3
  by_cases h1:n<a <;> by_cases h2:n > b <;> simp[h1,h2] <;> omega
 unfold Wv jO Sq
 simp only[List.all_cons,List.all_nil,hs,Bool.and_true]
 exact CJ _ _ _ _ _ _
def qG(s:aO):Int:=
 if (aI s.Kind).Known=false then 12 else if ((decide (s.ID<1))||(decide (s.ID > 255)))=true then 5 else if fG s=false then 1 else if iJ s=false then 5 else
 if ((s.Kind == 21)&&(s.Result != 0))=true then(if ((((s.Source != 0)||(s.bA != 0))||(s.bC != 0))||(s.au != 0))=true then 1 else 0)else
 if ((aI s.Kind).bg&&(s.bg == 0))=true then 1 else if fV s=false then 5 else if (aI s.Kind).Update=true then jO s.Update else 0
theorem KD(k:Int):(aI k).bg=(k == 20):=by
 rcases kinds k with rfl | rfl | rfl | rfl | rfl | rfl | rfl | rfl | h
 any_goals rfl
 obtain⟨h1,h2,h3,h4,h5,h6,h7,h8⟩:=h
 simp[aI,h1,h2,h3,h4,h5,h6,h7,h8]
theorem BZ(k:Int):(aI k).Update=(k == 18):=by
 rcases kinds k with rfl | rfl | rfl | rfl | rfl | rfl | rfl | rfl | h
 any_goals rfl
 obtain⟨h1,h2,h3,h4,h5,h6,h7,h8⟩:=h
 simp[aI,h1,h2,h3,h4,h5,h6,h7,h8]
theorem yY(F:Nat)(s:aO)(hF:5<F):WU F s=some (qG s):=by
 unfold WU qG
 obtain⟨x,hx,he⟩:=Ae F s
 rw[xH,hx]
 simp only[bs,he,q9e,Ie,Ih,JL F _ hF,KD,BZ]
 cases (aI s.Kind).Known <;> simp only[Bool.not_true,Bool.not_false,if_true,if_false,Bool.false_eq_true,reduceCtorEq]
 cases (decide (s.ID<1))||(decide (s.ID > 255)) <;> simp only[if_true,if_false,Bool.false_eq_true]
 cases fG s <;> simp only[Bool.not_true,Bool.not_false,if_true,if_false,Bool.false_eq_true,reduceCtorEq]
 cases iJ s <;> simp only[Bool.not_true,Bool.not_false,if_true,if_false,Bool.false_eq_true,reduceCtorEq]
 cases (s.Kind == 21)&&(s.Result != 0) <;> simp only[if_true,if_false,Bool.false_eq_true]
 ·cases (s.Kind == 20)&&(s.bg == 0) <;> simp only[if_true,if_false,Bool.false_eq_true]
  cases fV s <;> simp only[Bool.not_true,Bool.not_false,if_true,if_false,Bool.false_eq_true,reduceCtorEq]
  cases s.Kind == 18 <;> simp only[if_true,if_false,Bool.false_eq_true]
 ·split <;> rfl
theorem zo(F:Nat)(s:aO):Wu F s=some (qG s):=by
 unfold Wu qG
 rw[fJ,Hg]
 simp only[bs,Di,FH,zk]
 cases (aI s.Kind).Known <;> simp only[Bool.not_true,Bool.not_false,if_true,if_false,Bool.false_eq_true,reduceCtorEq]
 cases (decide (s.ID<1))||(decide (s.ID > 255)) <;> simp only[if_true,if_false,Bool.false_eq_true]
 cases fG s <;> simp only[Bool.not_true,Bool.not_false,if_true,if_false,Bool.false_eq_true,reduceCtorEq]
 cases iJ s <;> simp only[Bool.not_true,Bool.not_false,if_true,if_false,Bool.false_eq_true,reduceCtorEq]
 cases (s.Kind == 21)&&(s.Result != 0) <;> simp only[if_true,if_false,Bool.false_eq_true]
 ·cases (aI s.Kind).bg&&(s.bg == 0) <;> simp only[if_true,if_false,Bool.false_eq_true]
  cases fV s <;> simp only[Bool.not_true,Bool.not_false,if_true,if_false,Bool.false_eq_true,reduceCtorEq]
  cases (aI s.Kind).Update <;> simp only[if_true,if_false,Bool.false_eq_true]
 ·split <;> rfl
end Sg
end V
end Go.Proofs.YtbgfhaahhdnogaaGreat

namespace Go.Proofs.YtbgfhaahhdnogaaGreat
namespace V
namespace Sg
def aY(s:aO):List (Nat×Int):=
 if s.Kind=1∨s.Kind=19 then [(2,s.Result)]
 else if s.Kind=6∨s.Kind=7 then [(2,s.Source),(2,s.aT)]
 else if s.Kind=18 then [(1,s.Update.aU),(2,s.Update.aL),(2,s.Update.Interval),(2,s.Update.aV),(2,s.Update.Timeout)]
 else if s.Kind=20 then [(2,s.bg),(2,s.Source),(2,s.bA),(2,s.bC),(2,s.au)]
 else if s.Kind=21 then [(2,s.Source),(2,s.bA),(2,s.bC),(2,s.au),(2,s.Result)]
 else [(2,s.Source),(2,s.au)]
def Fit(s:aO):Prop:=∀p∈aY s,0≤p.2∧p.2<256 ^ p.1
theorem jI{s:aO}(h:qG s=0):(aI s.Kind).Known=true∧1≤s.ID∧s.ID≤255∧fG s=true∧iJ s=true∧
 ((s.Kind=21∧s.Source=0∧s.bA=0∧s.bC=0∧s.au=0)∨(fV s=true∧(s.Kind=18→jO s.Update=0))):=by
 unfold qG at h
 split at h
 ·cases h
 rename_i h1
 split at h
 ·cases h
 rename_i h2
 split at h
 ·cases h
 rename_i h3
 split at h
 ·cases h
 rename_i h4
 simp at h2
 refine⟨by simpa using h1,by omega,by omega,by simpa using h3,by simpa using h4,?_⟩
 split at h
 ·rename_i h5
  split at h
  ·cases h
  ·rename_i h6
   simp at h5 h6
   exact .inl ⟨h5.1,by omega,by omega,by omega,by omega⟩
 ·split at h
  ·cases h
  ·split at h
   ·cases h
   ·rename_i h7
    refine .inr ⟨by simpa using h7,fun hk=>?_⟩
    rw[BZ,hk]at h
    simpa using h
theorem jU{n:Int}:mQ n=true↔64≤n∧n≤127:=by simp[mQ]
theorem qR{n:Int}:Nb n=true↔23≤n∧n≤4096:=by simp[Nb]
theorem JK{u:fD}(h:jO u=0):(1≤u.aU∧u.aU≤8)∧(0≤u.aL∧u.aL≤3200)∧(6≤u.Interval∧u.Interval≤3200)∧(0≤u.aV∧u.aV≤499)∧10≤u.Timeout∧u.Timeout≤3200:=by
 unfold jO at h
 split at h
 ·cases h
 ·rename_i h1
  simp[j3]at h1
  omega
theorem p2:(256:Int) ^ 2=65536:=by decide
theorem p1:(256:Int) ^ 1=256:=by decide
theorem Le{s:aO}(h:qG s=0)(hp:0≤s.bg∧s.bg≤65535):Fit s:=by
 obtain⟨h1,_,_,h4,h5,h6⟩:=jI h
 obtain⟨k,id,p,so,de,mt,mp,cr,re,u⟩:=s
 rcases kinds k with rfl | rfl | rfl | rfl | rfl | rfl | rfl | rfl | hk
 ·simp[iJ,aI]at h5
  intro q hq
  simp[aY]at hq
  subst hq
  simp only[p2]; omega
 ·simp[fV,aI,jU]at h6
  intro q hq
  simp[aY]at hq
  rcases hq with rfl | rfl <;> simp only[p2] <;> omega
 ·simp[fV,aI,jU]at h6
  intro q hq
  simp[aY]at hq
  rcases hq with rfl | rfl <;> simp only[p2] <;> omega
 ·have h7:jO u=0:=by
   simp at h6
   exact h6.2
  obtain⟨g1,g2,g3,g4,g5⟩:=JK h7
  intro q hq
  simp[aY]at hq
  rcases hq with rfl | rfl | rfl | rfl | rfl <;> simp only[p2,p1] <;> omega
 ·simp[iJ,aI]at h5
  intro q hq
  simp[aY]at hq
  subst hq
  simp only[p2]; omega
 ·simp[fV,aI,jU,qR]at h6
  intro q hq
  simp[aY]at hq
  rcases hq with rfl | rfl | rfl | rfl | rfl <;> simp only[p2] <;> simp only at hp <;> omega
 ·simp[iJ,aI]at h5
  simp[fV,aI,jU,qR]at h6
  intro q hq
  simp[aY]at hq
  rcases hq with rfl | rfl | rfl | rfl | rfl <;> simp only[p2] <;> omega
 ·simp[fV,aI,jU,qR]at h6
  intro q hq
  simp[aY]at hq
  rcases hq with rfl | rfl <;> simp only[p2] <;> omega
 ·obtain⟨g1,g2,g3,g4,g5,g6,g7,g8⟩:=hk
  simp[aI,g1,g2,g3,g4,g5,g6,g7,g8]at h1
def eF(s:aO):List Int:=((aY s).map fun p=>pz p.1 p.2).flatten
def rV(s:aO):List Int:=[gX s.Kind,gX s.ID,gX ((eF s).length:Int),0]++eF s
def pJ(s:aO):List oN:=(aY s).map fun p=>⟨(p.1:Int),p.2⟩
theorem Ld(s:aO):jl (pJ s)=eF s:=by
 unfold jl pJ eF
 rw[List.map_map]
 rfl
theorem G8(s:aO):∀p∈aY s,p.1=1∨p.1=2:=by
 intro p hp
 unfold aY at hp
 (repeat' split at hp) <;> simp at hp <;> (try rcases hp with rfl | rfl | rfl | rfl | rfl) <;> (try rcases hp with rfl | rfl) <;> (try subst hp) <;> simp
theorem OH{s:aO}(h:Fit s):∀f∈pJ s,vT f:=by
 intro f hf
 obtain⟨p,hp,rfl⟩:=List.mem_map.1 hf
 obtain⟨h1,h2⟩:=h p hp
 rcases G8 s p hp with e | e
 ·rw[e]at h2
  refine⟨by simp[e],by simp[e],h1,?_,by simpa [e]using h2⟩
  simp only[p1]at h2; show p.2<_; omega
 ·rw[e]at h2
  refine⟨by simp[e],by simp[e],h1,?_,by simpa [e]using h2⟩
  simp only[p2]at h2; show p.2<_; omega
theorem JJ(s:aO):(aY s).length≤5:=by
 unfold aY
 (repeat' split) <;> simp
theorem rY(s:aO):(eF s).length≤10:=by
 unfold eF aY
 (repeat' split) <;> simp[lL]
theorem Lu(s:aO)(h:Fit s)(hk:(aI s.Kind).Known=true):∃sz nu,qs FF s.Kind=some sz∧q7l FF s=some nu∧
 iter (fun t=>Ju FF sz nu t.1 t.2.1 t.2.2) FF ([],0,0)=some (pJ s,((eF s).length:Int)):=by
 have wid:∀{x:Int} {k:Nat},0≤x∧x<256 ^ k→k=1∨k=2→wu64 x=x∧wu64 (aH x)=x:=by
  intro x k hx hk
  have:x<65536:=by rcases hk with rfl | rfl <;> simp only[p1,p2]at hx <;> omega
  rw[bJ (by omega) (by omega),eX (by omega) (by omega)]
  exact⟨rfl,rfl⟩
 obtain⟨k,id,p,so,de,mt,mp,cr,re,⟨u1,u2,u3,u4,u5⟩⟩:=s
 rcases kinds k with rfl | rfl | rfl | rfl | rfl | rfl | rfl | rfl | hk'
 ·refine⟨_,_,rfl,rfl,?_⟩
  have e1:=(wid (h (2,re) (by simp[aY])) (.inr rfl)).1
  have:iter (fun t=>Ju FF [2] [re] t.1 t.2.1 t.2.2) FF ([],0,0)=some ([⟨2,wu64 re⟩],2):=by kernel_rfl
  rw[e1]at this
  exact this
 ·refine⟨_,_,rfl,rfl,?_⟩
  have e1:=(wid (h (2,so) (by simp[aY])) (.inr rfl)).2
  have e2:=(wid (h (2,de) (by simp[aY])) (.inr rfl)).2
  have:iter (fun t=>Ju FF [2,2] [aH so,aH de] t.1 t.2.1 t.2.2) FF ([],0,0)=some ([⟨2,wu64 (aH so)⟩,⟨2,wu64 (aH de)⟩],4):=by kernel_rfl
  rw[e1,e2]at this
  exact this
 ·refine⟨_,_,rfl,rfl,?_⟩
  have e1:=(wid (h (2,so) (by simp[aY])) (.inr rfl)).2
  have e2:=(wid (h (2,de) (by simp[aY])) (.inr rfl)).2
  have:iter (fun t=>Ju FF [2,2] [aH so,aH de] t.1 t.2.1 t.2.2) FF ([],0,0)=some ([⟨2,wu64 (aH so)⟩,⟨2,wu64 (aH de)⟩],4):=by kernel_rfl
  rw[e1,e2]at this
  exact this
 ·refine⟨_,_,rfl,rfl,?_⟩
  have e1:=(wid (h (1,u1) (by simp[aY])) (.inl rfl)).1
  have e2:=(wid (h (2,u2) (by simp[aY])) (.inr rfl)).1
  have e3:=(wid (h (2,u3) (by simp[aY])) (.inr rfl)).1
  have e4:=(wid (h (2,u4) (by simp[aY])) (.inr rfl)).1
  have e5:=(wid (h (2,u5) (by simp[aY])) (.inr rfl)).1
  have:iter (fun t=>Ju FF [1,2,2,2,2] [u1,u2,u3,u4,u5] t.1 t.2.1 t.2.2) FF ([],0,0)=some ([⟨1,wu64 u1⟩,⟨2,wu64 u2⟩,⟨2,wu64 u3⟩,⟨2,wu64 u4⟩,⟨2,wu64 u5⟩],9):=by kernel_rfl
  rw[e1,e2,e3,e4,e5]at this
  exact this
 ·refine⟨_,_,rfl,rfl,?_⟩
  have e1:=(wid (h (2,re) (by simp[aY])) (.inr rfl)).1
  have:iter (fun t=>Ju FF [2] [re] t.1 t.2.1 t.2.2) FF ([],0,0)=some ([⟨2,wu64 re⟩],2):=by kernel_rfl
  rw[e1]at this
  exact this
 ·refine⟨_,_,rfl,rfl,?_⟩
  have e1:=(wid (h (2,p) (by simp[aY])) (.inr rfl)).2
  have e2:=(wid (h (2,so) (by simp[aY])) (.inr rfl)).2
  have e3:=(wid (h (2,mt) (by simp[aY])) (.inr rfl)).1
  have e4:=(wid (h (2,mp) (by simp[aY])) (.inr rfl)).1
  have e5:=(wid (h (2,cr) (by simp[aY])) (.inr rfl)).1
  have:iter (fun t=>Ju FF [2,2,2,2,2] [aH p,aH so,mt,mp,cr] t.1 t.2.1 t.2.2) FF ([],0,0)=some ([⟨2,wu64 (aH p)⟩,⟨2,wu64 (aH so)⟩,⟨2,wu64 mt⟩,⟨2,wu64 mp⟩,⟨2,wu64 cr⟩],10):=by kernel_rfl
  rw[e1,e2,e3,e4,e5]at this
  exact this
 ·refine⟨_,_,rfl,rfl,?_⟩
  have e1:=(wid (h (2,so) (by simp[aY])) (.inr rfl)).2
  have e2:=(wid (h (2,mt) (by simp[aY])) (.inr rfl)).1
  have e3:=(wid (h (2,mp) (by simp[aY])) (.inr rfl)).1
  have e4:=(wid (h (2,cr) (by simp[aY])) (.inr rfl)).1
  have e5:=(wid (h (2,re) (by simp[aY])) (.inr rfl)).1
  have:iter (fun t=>Ju FF [2,2,2,2,2] [aH so,mt,mp,cr,re] t.1 t.2.1 t.2.2) FF ([],0,0)=some ([⟨2,wu64 (aH so)⟩,⟨2,wu64 mt⟩,⟨2,wu64 mp⟩,⟨2,wu64 cr⟩,⟨2,wu64 re⟩],10):=by kernel_rfl
  rw[e1,e2,e3,e4,e5]at this
  exact this
 ·refine⟨_,_,rfl,rfl,?_⟩
  have e1:=(wid (h (2,so) (by simp[aY])) (.inr rfl)).2
  have e2:=(wid (h (2,cr) (by simp[aY])) (.inr rfl)).1
  have:iter (fun t=>Ju FF [2,2] [aH so,cr] t.1 t.2.1 t.2.2) FF ([],0,0)=some ([⟨2,wu64 (aH so)⟩,⟨2,wu64 cr⟩],4):=by kernel_rfl
  rw[e1,e2]at this
  exact this
 ·obtain⟨g1,g2,g3,g4,g5,g6,g7,g8⟩:=hk'
  simp[aI,g1,g2,g3,g4,g5,g6,g7,g8]at hk
def oh(s:aO):List Int×Int:=if qG s=0 then(rV s,0)else([],qG s)
theorem Nc(s:aO)(hp:0≤s.bg∧s.bg≤65535):q5c FF s=some (oh s):=by
 unfold q5c oh
 rw[yY FF s (by decide)]
 simp only[bs]
 by_cases h:qG s=0
 ·have hf:=Le h hp
  obtain⟨sz,nu,h1,h2,h3⟩:=Lu s hf (jI h).1
  rw[if_neg (by simp[h]),if_pos h,h1]
  simp only[bs]
  rw[h2]
  simp only[bs]
  rw[h3]
  simp only[bs,q9i]
  have hl:=JJ s
  rw[Gp FF (pJ s) (OH hf) (by simp[pJ]; omega) (by simp[pJ,FF]; omega)]
  simp only[bs]
  rw[if_neg (by simp),Ld]
  have hb:=rY s
  rw[xI FF _ _ (by decide) (by simp; omega)]
  rfl
 ·rw[if_pos (by simpa using h),if_neg h]
theorem kD{x:Int}(h:0≤x∧x<256 ^ 2):qb FF (wu64 x) 2=some (pz 2 x):=by
 simp only[p2]at h
 rw[eX (by omega) (by omega)]
 exact rz FF x 2 (by decide) (by decide) (by omega) (by omega)
theorem put1{x:Int}(h:0≤x∧x<256 ^ 1):qb FF (wu64 x) 1=some (pz 1 x):=by
 simp only[p1]at h
 rw[eX (by omega) (by omega)]
 exact rz FF x 1 (by decide) (by decide) (by omega) (by omega)
theorem Kg(s:aO)(h:Fit s)(hk:(aI s.Kind).Known=true):Sj FF s=some (eF s):=by
 have ap:∀(l m:List Int),l.length≤100→m.length≤100→app 1 l m=some (l++m):=fun l m h1 h2=>jB (by omega)
 unfold Sj
 rw[fJ]
 simp only[bs]
 obtain⟨k,id,p,so,de,mt,mp,cr,re,⟨u1,u2,u3,u4,u5⟩⟩:=s
 rcases kinds k with rfl | rfl | rfl | rfl | rfl | rfl | rfl | rfl | hk'
 ·have e1:=kD (h (2,re) (by simp[aY]))
  simp[aI,Ku,Kv,Kw,Ky,Kz,KA,KC,e1,ap,lL,eF,aY]
 ·have e1:=kD (h (2,so) (by simp[aY]))
  have e2:=kD (h (2,de) (by simp[aY]))
  simp[aI,Ku,Kv,Kw,Ky,Kz,KA,KC,e1,e2,ap,lL,eF,aY]
 ·have e1:=kD (h (2,so) (by simp[aY]))
  have e2:=kD (h (2,de) (by simp[aY]))
  simp[aI,Ku,Kv,Kw,Ky,Kz,KA,KC,e1,e2,ap,lL,eF,aY]
 ·have e1:=put1 (h (1,u1) (by simp[aY]))
  have e2:=kD (h (2,u2) (by simp[aY]))
  have e3:=kD (h (2,u3) (by simp[aY]))
  have e4:=kD (h (2,u4) (by simp[aY]))
  have e5:=kD (h (2,u5) (by simp[aY]))
  simp[aI,Ku,Kv,Kw,Ky,Kz,KA,KC,q83,e1,e2,e3,e4,e5,ap,lL,eF,aY]
 ·have e1:=kD (h (2,re) (by simp[aY]))
  simp[aI,Ku,Kv,Kw,Ky,Kz,KA,KC,e1,ap,lL,eF,aY]
 ·have e1:=kD (h (2,p) (by simp[aY]))
  have e2:=kD (h (2,so) (by simp[aY]))
  have e3:=kD (h (2,mt) (by simp[aY]))
  have e4:=kD (h (2,mp) (by simp[aY]))
  have e5:=kD (h (2,cr) (by simp[aY]))
  simp[aI,Ku,Kv,Kw,Ky,Kz,KA,KC,e1,e2,e3,e4,e5,ap,lL,eF,aY]
 ·have e1:=kD (h (2,so) (by simp[aY]))
  have e2:=kD (h (2,mt) (by simp[aY]))
  have e3:=kD (h (2,mp) (by simp[aY]))
  have e4:=kD (h (2,cr) (by simp[aY]))
  have e5:=kD (h (2,re) (by simp[aY]))
  simp[aI,Ku,Kv,Kw,Ky,Kz,KA,KC,e1,e2,e3,e4,e5,ap,lL,eF,aY]
 ·have e1:=kD (h (2,so) (by simp[aY]))
  have e2:=kD (h (2,cr) (by simp[aY]))
  simp[aI,Ku,Kv,Kw,Ky,Kz,KA,KC,e1,e2,ap,lL,eF,aY]
 ·obtain⟨g1,g2,g3,g4,g5,g6,g7,g8⟩:=hk'
  simp[aI,g1,g2,g3,g4,g5,g6,g7,g8]at hk
theorem NA(s:aO)(hp:0≤s.bg∧s.bg≤65535):ZW FF s=some (oh s):=by
 unfold ZW oh
 rw[zo]
 simp only[bs]
 by_cases h:qG s=0
 ·have hf:=Le h hp
  rw[if_neg (by simp[h]),if_pos h,Kg s hf (jI h).1]
  simp only[bs]
  have hb:=rY s
  rw[jB (by simp; omega)]
  rfl
 ·rw[if_pos (by simpa using h),if_neg h]
end Sg
end V
end Go.Proofs.YtbgfhaahhdnogaaGreat

namespace Go.Proofs.YtbgfhaahhdnogaaGreat
namespace V
namespace Sg
def fO(k:Int):List Nat:=
 if k=1∨k=19 then [2]
 else if k=6∨k=7∨k=22 then [2,2]
 else if k=18 then [1,2,2,2,2]
 else [2,2,2,2,2]
def zs:aO:=⟨0,0,0,0,0,0,0,0,0,⟨0,0,0,0,0⟩⟩
def ks(k id:Int):aO:=⟨k,id,0,0,0,0,0,0,0,⟨0,0,0,0,0⟩⟩
def iF(b:List Int)(at_ k:Nat):Int:=num ((b.drop at_).take k)
def fq(k id:Int)(b:List Int):aO:=
 if k=1∨k=19 then⟨k,id,0,0,0,0,0,0,iF b 4 2,⟨0,0,0,0,0⟩⟩
 else if k=6∨k=7 then⟨k,id,0,iF b 4 2,iF b 6 2,0,0,0,0,⟨0,0,0,0,0⟩⟩
 else if k=18 then⟨k,id,0,0,0,0,0,0,0,⟨iF b 4 1,iF b 5 2,iF b 7 2,iF b 9 2,iF b 11 2⟩⟩
 else if k=20 then⟨k,id,iF b 4 2,iF b 6 2,0,iF b 8 2,iF b 10 2,iF b 12 2,0,⟨0,0,0,0,0⟩⟩
 else if k=21 then⟨k,id,0,iF b 4 2,0,iF b 6 2,iF b 8 2,iF b 10 2,iF b 12 2,⟨0,0,0,0,0⟩⟩
 else⟨k,id,0,iF b 4 2,0,0,0,iF b 6 2,0,⟨0,0,0,0,0⟩⟩
def jk(k id n:Int)(b:List Int):aO×Int:=
 if (aI k).Known=false then(zs,12)
 else if id=0 then(zs,5)
 else if n≠(eu (fO k):Int)then(zs,2)
 else if b.length<4+eu (fO k)then(zs,3)
 else if 4+eu (fO k)<b.length then(zs,2)
 else if qG (fq k id b)≠0 then(zs,qG (fq k id b))
 else(fq k id b,0)
def oL:List Int→aO×Int
 | k::id::c::d::r=>jk k id (c+256 * d) (k::id::c::d::r)
 | _=>(zs,3)
theorem lG{b:List Int}(hb:∀x∈b,Byte x)(at_:Nat)(k:Nat)(hk:k=1∨k=2):0≤iF b at_ k∧iF b at_ k<65536:=by
 have hm:∀x∈(b.drop at_).take k,Byte x:=fun x hx=>hb x (List.mem_of_mem_drop (List.mem_of_mem_take hx))
 refine⟨num_nonneg hm,?_⟩
 have h1:=Ap hm
 have h2:((b.drop at_).take k).length≤2:=by simp; omega
 unfold iF
 generalize num ((b.drop at_).take k)=q at *
 generalize ((b.drop at_).take k).length=n at *
 rcases n with _ | _ | _ | n
 ·have:(256:Int) ^ 0=1:=by decide
  rw[this]at h1; omega
 ·have:(256:Int) ^ (0+1)=256:=by decide
  rw[this]at h1; omega
 ·have:(256:Int) ^ (0+1+1)=65536:=by decide
  rw[this]at h1; omega
 ·omega
theorem dV{b:List Int}(hb:∀x∈b,Byte x)(at_ k:Nat)(hk:k≤8)(hl:at_+k≤b.length)(ha:at_≤100):q9 FF b at_ k=some (iF b at_ k):=by
 have hlen:((b.drop at_).take k).length=k:=by simp; omega
 have:=Ai FF b ((b.drop at_).take k) at_ (by rw[hlen]; unfold FF; omega) (fun x hx=>hb x (List.mem_of_mem_drop (List.mem_of_mem_take hx))) (by omega) (by omega) (by
  intro i hi
  rw[hlen]at hi
  rw[List.getElem?_take_of_lt hi,List.getElem?_drop])
 rw[hlen]at this
 exact this
theorem Ck{k:Int}(hk:(aI k).Known=true):qs FF k=some (iw (fO k)):=by
 rcases kinds k with rfl | rfl | rfl | rfl | rfl | rfl | rfl | rfl | h
 any_goals rfl
 obtain⟨h1,h2,h3,h4,h5,h6,h7,h8⟩:=h
 simp[aI,h1,h2,h3,h4,h5,h6,h7,h8]at hk
theorem F9(k:Int):∀n∈fO k,1≤n∧n≤8:=by
 unfold fO
 (repeat' split) <;> decide
theorem JM(k:Int):(fO k).length≤5:=by
 unfold fO
 (repeat' split) <;> decide
theorem wB(k:Int):eu (fO k)≤10:=by
 unfold fO
 (repeat' split) <;> decide
theorem LD(k:Int)(hk:(aI k).Known=true):iter (fun s=>V7 FF (iw (fO k)) s.1 s.2) FF (0,0)=some (eu (fO k):Int):=by
 rcases kinds k with rfl | rfl | rfl | rfl | rfl | rfl | rfl | rfl | h
 ·kernel_rfl
 ·kernel_rfl
 ·kernel_rfl
 ·kernel_rfl
 ·kernel_rfl
 ·kernel_rfl
 ·kernel_rfl
 ·kernel_rfl
 obtain⟨h1,h2,h3,h4,h5,h6,h7,h8⟩:=h
 simp[aI,h1,h2,h3,h4,h5,h6,h7,h8]at hk
theorem fl1(id x0:Int)(h0:0≤x0∧x0<65536):qi FF (ks 1 id) [x0]=some ⟨1,id,0,0,0,0,0,0,x0,⟨0,0,0,0,0⟩⟩:=by
 have h:qi FF (ks 1 id) [x0]=some ⟨1,id,0,0,0,0,0,0,aH x0,⟨0,0,0,0,0⟩⟩:=by kernel_rfl
 rw[bJ (by omega) (by omega)]at h
 exact h
theorem fl6(id x0 x1:Int)(h0:0≤x0∧x0<65536)(h1:0≤x1∧x1<65536):qi FF (ks 6 id) [x0,x1]=some ⟨6,id,0,x0,x1,0,0,0,0,⟨0,0,0,0,0⟩⟩:=by
 have h:qi FF (ks 6 id) [x0,x1]=some ⟨6,id,0,fB x0,fB x1,0,0,0,0,⟨0,0,0,0,0⟩⟩:=by kernel_rfl
 rw[dW h0.1 (by omega),dW h1.1 (by omega)]at h
 exact h
theorem fl7(id x0 x1:Int)(h0:0≤x0∧x0<65536)(h1:0≤x1∧x1<65536):qi FF (ks 7 id) [x0,x1]=some ⟨7,id,0,x0,x1,0,0,0,0,⟨0,0,0,0,0⟩⟩:=by
 have h:qi FF (ks 7 id) [x0,x1]=some ⟨7,id,0,fB x0,fB x1,0,0,0,0,⟨0,0,0,0,0⟩⟩:=by kernel_rfl
 rw[dW h0.1 (by omega),dW h1.1 (by omega)]at h
 exact h
theorem fl18(id x0 x1 x2 x3 x4:Int)(h0:0≤x0∧x0<65536)(h1:0≤x1∧x1<65536)(h2:0≤x2∧x2<65536)(h3:0≤x3∧x3<65536)(h4:0≤x4∧x4<65536):qi FF (ks 18 id) [x0,x1,x2,x3,x4]=some ⟨18,id,0,0,0,0,0,0,0,⟨x0,x1,x2,x3,x4⟩⟩:=by
 have h:qi FF (ks 18 id) [x0,x1,x2,x3,x4]=some ⟨18,id,0,0,0,0,0,0,0,⟨aH x0,aH x1,aH x2,aH x3,aH x4⟩⟩:=by kernel_rfl
 rw[bJ (by omega) (by omega),bJ (by omega) (by omega),bJ (by omega) (by omega),bJ (by omega) (by omega),bJ (by omega) (by omega)]at h
 exact h
theorem fl19(id x0:Int)(h0:0≤x0∧x0<65536):qi FF (ks 19 id) [x0]=some ⟨19,id,0,0,0,0,0,0,x0,⟨0,0,0,0,0⟩⟩:=by
 have h:qi FF (ks 19 id) [x0]=some ⟨19,id,0,0,0,0,0,0,aH x0,⟨0,0,0,0,0⟩⟩:=by kernel_rfl
 rw[bJ (by omega) (by omega)]at h
 exact h
theorem fl20(id x0 x1 x2 x3 x4:Int)(h0:0≤x0∧x0<65536)(h1:0≤x1∧x1<65536)(h2:0≤x2∧x2<65536)(h3:0≤x3∧x3<65536)(h4:0≤x4∧x4<65536):qi FF (ks 20 id) [x0,x1,x2,x3,x4]=some ⟨20,id,x0,x1,0,x2,x3,x4,0,⟨0,0,0,0,0⟩⟩:=by
 have h:qi FF (ks 20 id) [x0,x1,x2,x3,x4]=some ⟨20,id,fB x0,fB x1,0,aH x2,aH x3,aH x4,0,⟨0,0,0,0,0⟩⟩:=by kernel_rfl
 rw[dW h0.1 (by omega),dW h1.1 (by omega),bJ (by omega) (by omega),bJ (by omega) (by omega),bJ (by omega) (by omega)]at h
 exact h
theorem fl21(id x0 x1 x2 x3 x4:Int)(h0:0≤x0∧x0<65536)(h1:0≤x1∧x1<65536)(h2:0≤x2∧x2<65536)(h3:0≤x3∧x3<65536)(h4:0≤x4∧x4<65536):qi FF (ks 21 id) [x0,x1,x2,x3,x4]=some ⟨21,id,0,x0,0,x1,x2,x3,x4,⟨0,0,0,0,0⟩⟩:=by
 have h:qi FF (ks 21 id) [x0,x1,x2,x3,x4]=some ⟨21,id,0,fB x0,0,aH x1,aH x2,aH x3,aH x4,⟨0,0,0,0,0⟩⟩:=by kernel_rfl
 rw[dW h0.1 (by omega),bJ (by omega) (by omega),bJ (by omega) (by omega),bJ (by omega) (by omega),bJ (by omega) (by omega)]at h
 exact h
theorem fl22(id x0 x1:Int)(h0:0≤x0∧x0<65536)(h1:0≤x1∧x1<65536):qi FF (ks 22 id) [x0,x1]=some ⟨22,id,0,x0,0,0,0,x1,0,⟨0,0,0,0,0⟩⟩:=by
 have h:qi FF (ks 22 id) [x0,x1]=some ⟨22,id,0,fB x0,0,0,0,aH x1,0,⟨0,0,0,0,0⟩⟩:=by kernel_rfl
 rw[dW h0.1 (by omega),bJ (by omega) (by omega)]at h
 exact h
theorem I8{b:List Int}(hb:∀x∈b,Byte x)(k id:Int)(hk:(aI k).Known=true):qi FF (ks k id) (fH (b.drop 4) (fO k))=some (fq k id b):=by
 have r2:=fun a=>lG hb a 2 (.inr rfl)
 have r1:=lG hb 4 1 (.inl rfl)
 rcases kinds k with rfl | rfl | rfl | rfl | rfl | rfl | rfl | rfl | h
 ·rw[show fH (b.drop 4) (fO 1)=[iF b 4 2]from by simp[fH,fO,iF]]
  exact fl1 id _ (r2 4)
 ·rw[show fH (b.drop 4) (fO 6)=[iF b 4 2,iF b 6 2]from by simp[fH,fO,iF]]
  exact fl6 id _ _ (r2 4) (r2 6)
 ·rw[show fH (b.drop 4) (fO 7)=[iF b 4 2,iF b 6 2]from by simp[fH,fO,iF]]
  exact fl7 id _ _ (r2 4) (r2 6)
 ·rw[show fH (b.drop 4) (fO 18)=[iF b 4 1,iF b 5 2,iF b 7 2,iF b 9 2,iF b 11 2]from by simp[fH,fO,iF]]
  exact fl18 id _ _ _ _ _ r1 (r2 5) (r2 7) (r2 9) (r2 11)
 ·rw[show fH (b.drop 4) (fO 19)=[iF b 4 2]from by simp[fH,fO,iF]]
  exact fl19 id _ (r2 4)
 ·rw[show fH (b.drop 4) (fO 20)=[iF b 4 2,iF b 6 2,iF b 8 2,iF b 10 2,iF b 12 2]from by simp[fH,fO,iF]]
  exact fl20 id _ _ _ _ _ (r2 4) (r2 6) (r2 8) (r2 10) (r2 12)
 ·rw[show fH (b.drop 4) (fO 21)=[iF b 4 2,iF b 6 2,iF b 8 2,iF b 10 2,iF b 12 2]from by simp[fH,fO,iF]]
  exact fl21 id _ _ _ _ _ (r2 4) (r2 6) (r2 8) (r2 10) (r2 12)
 ·rw[show fH (b.drop 4) (fO 22)=[iF b 4 2,iF b 6 2]from by simp[fH,fO,iF]]
  exact fl22 id _ _ (r2 4) (r2 6)
 ·obtain⟨h1,h2,h3,h4,h5,h6,h7,h8⟩:=h
  simp[aI,h1,h2,h3,h4,h5,h6,h7,h8]at hk
theorem AA{x:Int}(hx:Byte x):jR .i64 (aH x) 8=x * 256:=by
 obtain⟨h0,h1⟩:=hx
 unfold jR
 rw[wrap_i64,bJ (x:=x) (by omega) (by omega),show(2:Int) ^ 8=256 by decide,bJ (by omega) (by omega)]
theorem Ao{x y:Int}(hx:Byte x)(hy:Byte y):qF .i64 (aH x) (y * 256)=x+256 * y:=by
 obtain⟨h0,h1⟩:=hx
 obtain⟨g0,g1⟩:=hy
 rw[bJ (by omega) (by omega)]
 obtain⟨x,rfl⟩:=Int.eq_ofNat_of_zero_le h0
 obtain⟨y,rfl⟩:=Int.eq_ofNat_of_zero_le g0
 unfold qF
 have e:(BitVec.ofInt IntKind.i64.bits (x:Int) ||| BitVec.ofInt IntKind.i64.bits ((y:Int) * 256)).toNat=x+y * 256:=by
  rw[show((y:Int) * 256)=((y * 256:Nat):Int)from by rw[Int.natCast_mul]; rfl,BitVec.toNat_or]
  show(BitVec.ofInt 64 (x:Int)).toNat ||| (BitVec.ofInt 64 ((y * 256:Nat):Int)).toNat=_
  rw[BitVec.toNat_ofInt,BitVec.toNat_ofInt]
  rw[show(((x:Nat):Int) % ((2 ^ 64:Nat):Int)).toNat=x from by rw[← Int.natCast_emod,Int.toNat_natCast,Nat.mod_eq_of_lt (by omega)]]
  rw[show(((y * 256:Nat):Int) % ((2 ^ 64:Nat):Int)).toNat=y * 256 from by rw[← Int.natCast_emod,Int.toNat_natCast,Nat.mod_eq_of_lt (by omega)]]
  exact xg x y 8 (by omega)
 rw[e,wrap_i64,bJ (by omega) (by omega)]
 omega
theorem Nf(b:List Int)(hb:∀x∈b,Byte x)(hl:b.length≤1000000):Wq FF b=some (oL b):=by
 match b,hb,hl with
 | [],_,_=>rfl
 | [_],_,_=>rfl
 | [_,_],_,_=>rfl
 | [_,_,_],_,_=>rfl
 | k::id::c::d::r,hb,hl=>
   have hk:=hb k (by simp)
   have hid:=hb id (by simp)
   have hc:=hb c (by simp)
   have hd:=hb d (by simp)
   have h5:¬ (len (k::id::c::d::r)<4):=by simp only[len,List.length_cons]; omega
   have i0:idx (k::id::c::d::r) 0=some k:=(dN _ 0).trans rfl
   have i1:idx (k::id::c::d::r) 1=some id:=(dN _ 1).trans rfl
   have i2:idx (k::id::c::d::r) 2=some c:=(dN _ 2).trans rfl
   have i3:idx (k::id::c::d::r) 3=some d:=(dN _ 3).trans rfl
   unfold Wq
   rw[if_neg (fun h=>h5 (of_decide_eq_true h)),i0,bs,i1,bs]
   show Zf FF (k::id::c::d::r) ⟨aH k,aH id,0,0,0,0,0,0,0,⟨0,0,0,0,0⟩⟩=_
   rw[bJ (by have:=hk.1; omega) (by have:=hk.2; omega),bJ (by have:=hid.1; omega) (by have:=hid.2; omega)]
   unfold Zf
   rw[i2,bs,i3,bs,AA hd]
   show Zg FF (k::id::c::d::r) (ks k id) (qF .i64 (aH c) (d * 256))=_
   rw[Ao hc hd]
   show _=some (jk k id (c+256 * d) (k::id::c::d::r))
   generalize hB:k::id::c::d::r=B at *
   generalize c+256 * d=n
   have hBl:4≤B.length:=by rw[← hB]; simp
   clear hB i0 i1 i2 i3 h5
   unfold Zg jk
   show(qs FF k).bind _=_
   by_cases hkn:(aI k).Known=true
   ·rw[Ck hkn,bs,LD k hkn,bs]
    unfold Zh
    rw[xH]
    show(some (aI k).Known).bind _=_
    rw[hkn,bs,if_neg (show ¬ ((!true)=true) by decide),if_neg (show ¬ (true=false) by decide)]
    show(if (id == 0)=true then _ else _)=_
    by_cases h0:id=0
    ·rw[if_pos (by simp[h0]),if_pos h0]; rfl
    rw[if_neg (by simp[h0]),if_neg h0]
    by_cases hn:n=(eu (fO k):Int)
    ·rw[if_neg (by simp[hn]),if_neg (show ¬ (n≠(eu (fO k):Int))from not_not_intro hn)]
     have hs:=gB B 4 B.length hBl (Nat.le_refl _)
     rw[List.take_length]at hs
     rw[show sub B 4 (len B)=some (B.drop 4)from hs,bs]
     show(qs FF k).bind _=_
     rw[Ck hkn,bs]
     have hlen:=JM k
     have hsum:=wB k
     have hbd:∀x∈B.drop 4,Byte x:=fun x hx=>hb x (List.mem_of_mem_drop hx)
     by_cases hsh:B.length<4+eu (fO k)
     ·rw[EL FF (B.drop 4) (fO k) (F9 k) (by omega) (by unfold FF; omega) (by simp; omega),if_pos hsh]
      rfl
     ·rw[MX FF (B.drop 4) (fO k) (F9 k) (by omega) (by unfold FF; omega) hbd (by simp; omega) (by simp; omega),if_neg hsh,bs]
      unfold q9y
      rw[if_neg (by simp)]
      by_cases hlo:4+eu (fO k)<B.length
      ·rw[if_pos (by simp[len]; omega),if_pos hlo]; rfl
      ·rw[if_neg (by simp[len]; omega),if_neg hlo]
       show(qi FF (ks k id) (fH (B.drop 4) (fO k))).bind _=_
       rw[I8 hb k id hkn,bs,yY FF _ (by decide),bs]
       by_cases hch:qG (fq k id B)=0
       ·rw[if_neg (by simp[hch]),if_neg (show ¬ (qG (fq k id B)≠0)from not_not_intro hch)]
       ·rw[if_pos (by simp[hch]),if_pos hch]; rfl
    ·rw[if_pos (by simpa using hn),if_pos hn]; rfl
   ·have hk0:(aI k).Known=false:=by simpa using hkn
    have:∃sz n',qs FF k=some sz∧iter (fun s=>V7 FF sz s.1 s.2) FF (0,0)=some n':=by
     rcases kinds k with rfl | rfl | rfl | rfl | rfl | rfl | rfl | rfl | h
     any_goals cases hk0
     obtain⟨h1,h2,h3,h4,h5,h6,h7,h8⟩:=h
     refine⟨[2,2,2,2,2],10,?_,by kernel_rfl⟩
     simp[qs,Zl,Wl,h1,h2,h3,h4,h5,h6,h7,h8]
    obtain⟨sz,n',e1,e2⟩:=this
    rw[e1,bs,e2,bs]
    unfold Zh
    rw[xH]
    show(some (aI k).Known).bind _=_
    rw[hk0,bs,if_pos (show(!false)=true from rfl),if_pos (show false=false from rfl)]
    rfl
end Sg
end V
end Go.Proofs.YtbgfhaahhdnogaaGreat

namespace Go.Proofs.YtbgfhaahhdnogaaGreat
namespace V
namespace Sg
theorem uK:aH (4+2)=6:=by decide
theorem uG:aH (6+2)=8:=by decide
theorem uE:aH (8+2)=10:=by decide
theorem uD:aH (8+4)=12:=by decide
theorem uF:aH (6+4)=10:=by decide
theorem nA:aH (10+2)=12:=by decide
theorem ny:aH (12+2)=14:=by decide
theorem uL:aH (4+1)=5:=by decide
theorem uJ:aH (4+3)=7:=by decide
theorem uI:aH (4+5)=9:=by decide
theorem uH:aH (4+7)=11:=by decide
theorem tk1(b:List Int)(id x0:Int)(h0:0≤x0∧x0<65536)(n0:q9 FF b 4 2=some x0):qj FF (ks 1 id) b=some ⟨1,id,0,0,0,0,0,0,x0,⟨0,0,0,0,0⟩⟩:=by
 have e:aH x0=x0∧True:=by refine⟨?_,trivial⟩ <;> first | exact bJ (by omega) (by omega) | exact dW (by omega) (by omega)
 simp only[qj,Ki,Kj,Kk,Kl,Km,Ko,Kq,MN,ks,fJ,aI,bs,uK,uG,uE,uD,uF,nA,ny,uL,uJ,uI,uH,if_true,if_false,Bool.false_eq_true,reduceIte,Int.reduceEq,or_true,true_or,or_false,false_or,or_self,n0,e]
theorem tk6(b:List Int)(id x0 x1:Int)(h0:0≤x0∧x0<65536)(h1:0≤x1∧x1<65536)(n0:q9 FF b 4 2=some x0)(n1:q9 FF b 6 2=some x1):qj FF (ks 6 id) b=some ⟨6,id,0,x0,x1,0,0,0,0,⟨0,0,0,0,0⟩⟩:=by
 have e:fB x0=x0∧fB x1=x1∧True:=by refine⟨?_,?_,trivial⟩ <;> first | exact bJ (by omega) (by omega) | exact dW (by omega) (by omega)
 simp only[qj,Ki,Kj,Kk,Kl,Km,Ko,Kq,MN,ks,fJ,aI,bs,uK,uG,uE,uD,uF,nA,ny,uL,uJ,uI,uH,if_true,if_false,Bool.false_eq_true,reduceIte,Int.reduceEq,or_true,true_or,or_false,false_or,or_self,n0,n1,e]
theorem tk7(b:List Int)(id x0 x1:Int)(h0:0≤x0∧x0<65536)(h1:0≤x1∧x1<65536)(n0:q9 FF b 4 2=some x0)(n1:q9 FF b 6 2=some x1):qj FF (ks 7 id) b=some ⟨7,id,0,x0,x1,0,0,0,0,⟨0,0,0,0,0⟩⟩:=by
 have e:fB x0=x0∧fB x1=x1∧True:=by refine⟨?_,?_,trivial⟩ <;> first | exact bJ (by omega) (by omega) | exact dW (by omega) (by omega)
 simp only[qj,Ki,Kj,Kk,Kl,Km,Ko,Kq,MN,ks,fJ,aI,bs,uK,uG,uE,uD,uF,nA,ny,uL,uJ,uI,uH,if_true,if_false,Bool.false_eq_true,reduceIte,Int.reduceEq,or_true,true_or,or_false,false_or,or_self,n0,n1,e]
theorem tk18(b:List Int)(id x0 x1 x2 x3 x4:Int)(h0:0≤x0∧x0<65536)(h1:0≤x1∧x1<65536)(h2:0≤x2∧x2<65536)(h3:0≤x3∧x3<65536)(h4:0≤x4∧x4<65536)(n0:q9 FF b 4 1=some x0)(n1:q9 FF b 5 2=some x1)(n2:q9 FF b 7 2=some x2)(n3:q9 FF b 9 2=some x3)(n4:q9 FF b 11 2=some x4):qj FF (ks 18 id) b=some ⟨18,id,0,0,0,0,0,0,0,⟨x0,x1,x2,x3,x4⟩⟩:=by
 have e:aH x0=x0∧aH x1=x1∧aH x2=x2∧aH x3=x3∧aH x4=x4∧True:=by refine⟨?_,?_,?_,?_,?_,trivial⟩ <;> first | exact bJ (by omega) (by omega) | exact dW (by omega) (by omega)
 simp only[qj,Ki,Kj,Kk,Kl,Km,Ko,Kq,MN,ks,fJ,aI,bs,uK,uG,uE,uD,uF,nA,ny,uL,uJ,uI,uH,if_true,if_false,Bool.false_eq_true,reduceIte,Int.reduceEq,or_true,true_or,or_false,false_or,or_self,n0,n1,n2,n3,n4,e]
theorem tk19(b:List Int)(id x0:Int)(h0:0≤x0∧x0<65536)(n0:q9 FF b 4 2=some x0):qj FF (ks 19 id) b=some ⟨19,id,0,0,0,0,0,0,x0,⟨0,0,0,0,0⟩⟩:=by
 have e:aH x0=x0∧True:=by refine⟨?_,trivial⟩ <;> first | exact bJ (by omega) (by omega) | exact dW (by omega) (by omega)
 simp only[qj,Ki,Kj,Kk,Kl,Km,Ko,Kq,MN,ks,fJ,aI,bs,uK,uG,uE,uD,uF,nA,ny,uL,uJ,uI,uH,if_true,if_false,Bool.false_eq_true,reduceIte,Int.reduceEq,or_true,true_or,or_false,false_or,or_self,n0,e]
theorem tk20(b:List Int)(id x0 x1 x2 x3 x4:Int)(h0:0≤x0∧x0<65536)(h1:0≤x1∧x1<65536)(h2:0≤x2∧x2<65536)(h3:0≤x3∧x3<65536)(h4:0≤x4∧x4<65536)(n0:q9 FF b 4 2=some x0)(n1:q9 FF b 6 2=some x1)(n2:q9 FF b 8 2=some x2)(n3:q9 FF b 10 2=some x3)(n4:q9 FF b 12 2=some x4):qj FF (ks 20 id) b=some ⟨20,id,x0,x1,0,x2,x3,x4,0,⟨0,0,0,0,0⟩⟩:=by
 have e:fB x0=x0∧fB x1=x1∧aH x2=x2∧aH x3=x3∧aH x4=x4∧True:=by refine⟨?_,?_,?_,?_,?_,trivial⟩ <;> first | exact bJ (by omega) (by omega) | exact dW (by omega) (by omega)
 simp only[qj,Ki,Kj,Kk,Kl,Km,Ko,Kq,MN,ks,fJ,aI,bs,uK,uG,uE,uD,uF,nA,ny,uL,uJ,uI,uH,if_true,if_false,Bool.false_eq_true,reduceIte,Int.reduceEq,or_true,true_or,or_false,false_or,or_self,n0,n1,n2,n3,n4,e]
theorem tk21(b:List Int)(id x0 x1 x2 x3 x4:Int)(h0:0≤x0∧x0<65536)(h1:0≤x1∧x1<65536)(h2:0≤x2∧x2<65536)(h3:0≤x3∧x3<65536)(h4:0≤x4∧x4<65536)(n0:q9 FF b 4 2=some x0)(n1:q9 FF b 6 2=some x1)(n2:q9 FF b 8 2=some x2)(n3:q9 FF b 10 2=some x3)(n4:q9 FF b 12 2=some x4):qj FF (ks 21 id) b=some ⟨21,id,0,x0,0,x1,x2,x3,x4,⟨0,0,0,0,0⟩⟩:=by
 have e:fB x0=x0∧aH x1=x1∧aH x2=x2∧aH x3=x3∧aH x4=x4∧True:=by refine⟨?_,?_,?_,?_,?_,trivial⟩ <;> first | exact bJ (by omega) (by omega) | exact dW (by omega) (by omega)
 simp only[qj,Ki,Kj,Kk,Kl,Km,Ko,Kq,MN,ks,fJ,aI,bs,uK,uG,uE,uD,uF,nA,ny,uL,uJ,uI,uH,if_true,if_false,Bool.false_eq_true,reduceIte,Int.reduceEq,or_true,true_or,or_false,false_or,or_self,n0,n1,n2,n3,n4,e]
theorem tk22(b:List Int)(id x0 x1:Int)(h0:0≤x0∧x0<65536)(h1:0≤x1∧x1<65536)(n0:q9 FF b 4 2=some x0)(n1:q9 FF b 6 2=some x1):qj FF (ks 22 id) b=some ⟨22,id,0,x0,0,0,0,x1,0,⟨0,0,0,0,0⟩⟩:=by
 have e:fB x0=x0∧aH x1=x1∧True:=by refine⟨?_,?_,trivial⟩ <;> first | exact bJ (by omega) (by omega) | exact dW (by omega) (by omega)
 simp only[qj,Ki,Kj,Kk,Kl,Km,Ko,Kq,MN,ks,fJ,aI,bs,uK,uG,uE,uD,uF,nA,ny,uL,uJ,uI,uH,if_true,if_false,Bool.false_eq_true,reduceIte,Int.reduceEq,or_true,true_or,or_false,false_or,or_self,n0,n1,e]
theorem mX{b:List Int}(hb:∀x∈b,Byte x)(k id:Int)(hk:(aI k).Known=true)(hl:b.length=4+eu (fO k)):qj FF (ks k id) b=some (fq k id b):=by
 have r2:=fun a=>lG hb a 2 (.inr rfl)
 have r1:=lG hb 4 1 (.inl rfl)
 rcases kinds k with rfl | rfl | rfl | rfl | rfl | rfl | rfl | rfl | h
 ·have hl:b.length=6:=hl
  exact tk1 b id _ (r2 4) (dV hb 4 2 (by decide) (by omega) (by decide))
 ·have hl:b.length=8:=hl
  exact tk6 b id _ _ (r2 4) (r2 6) (dV hb 4 2 (by decide) (by omega) (by decide)) (dV hb 6 2 (by decide) (by omega) (by decide))
 ·have hl:b.length=8:=hl
  exact tk7 b id _ _ (r2 4) (r2 6) (dV hb 4 2 (by decide) (by omega) (by decide)) (dV hb 6 2 (by decide) (by omega) (by decide))
 ·have hl:b.length=13:=hl
  exact tk18 b id _ _ _ _ _ r1 (r2 5) (r2 7) (r2 9) (r2 11) (dV hb 4 1 (by decide) (by omega) (by decide)) (dV hb 5 2 (by decide) (by omega) (by decide)) (dV hb 7 2 (by decide) (by omega) (by decide)) (dV hb 9 2 (by decide) (by omega) (by decide)) (dV hb 11 2 (by decide) (by omega) (by decide))
 ·have hl:b.length=6:=hl
  exact tk19 b id _ (r2 4) (dV hb 4 2 (by decide) (by omega) (by decide))
 ·have hl:b.length=14:=hl
  exact tk20 b id _ _ _ _ _ (r2 4) (r2 6) (r2 8) (r2 10) (r2 12) (dV hb 4 2 (by decide) (by omega) (by decide)) (dV hb 6 2 (by decide) (by omega) (by decide)) (dV hb 8 2 (by decide) (by omega) (by decide)) (dV hb 10 2 (by decide) (by omega) (by decide)) (dV hb 12 2 (by decide) (by omega) (by decide))
 ·have hl:b.length=14:=hl
  exact tk21 b id _ _ _ _ _ (r2 4) (r2 6) (r2 8) (r2 10) (r2 12) (dV hb 4 2 (by decide) (by omega) (by decide)) (dV hb 6 2 (by decide) (by omega) (by decide)) (dV hb 8 2 (by decide) (by omega) (by decide)) (dV hb 10 2 (by decide) (by omega) (by decide)) (dV hb 12 2 (by decide) (by omega) (by decide))
 ·have hl:b.length=8:=hl
  exact tk22 b id _ _ (r2 4) (r2 6) (dV hb 4 2 (by decide) (by omega) (by decide)) (dV hb 6 2 (by decide) (by omega) (by decide))
 ·obtain⟨h1,h2,h3,h4,h5,h6,h7,h8⟩:=h
  simp[aI,h1,h2,h3,h4,h5,h6,h7,h8]at hk
theorem Jj(k id:Int)(hk:(aI k).Known=true):∃z,Sj FF (ks k id)=some z∧z.length=eu (fO k):=by
 rcases kinds k with rfl | rfl | rfl | rfl | rfl | rfl | rfl | rfl | h
 ·exact⟨[0,0],by kernel_rfl,rfl⟩
 ·exact⟨[0,0,0,0],by kernel_rfl,rfl⟩
 ·exact⟨[0,0,0,0],by kernel_rfl,rfl⟩
 ·exact⟨[0,0,0,0,0,0,0,0,0],by kernel_rfl,rfl⟩
 ·exact⟨[0,0],by kernel_rfl,rfl⟩
 ·exact⟨[0,0,0,0,0,0,0,0,0,0],by kernel_rfl,rfl⟩
 ·exact⟨[0,0,0,0,0,0,0,0,0,0],by kernel_rfl,rfl⟩
 ·exact⟨[0,0,0,0],by kernel_rfl,rfl⟩
 ·obtain⟨h1,h2,h3,h4,h5,h6,h7,h8⟩:=h
  simp[aI,h1,h2,h3,h4,h5,h6,h7,h8]at hk
theorem Ob(k id c d:Int)(r:List Int):iF (k::id::c::d::r) 2 2=c+256 * d:=by simp[iF,num]
theorem NC(b:List Int)(hb:∀x∈b,Byte x)(hl:b.length≤1000000):Wn FF b=some (oL b):=by
 match b,hb,hl with
 | [],_,_=>rfl
 | [_],_,_=>rfl
 | [_,_],_,_=>rfl
 | [_,_,_],_,_=>rfl
 | k::id::c::d::r,hb,hl=>
   have hk:=hb k (by simp)
   have hid:=hb id (by simp)
   have hc:=hb c (by simp)
   have hd:=hb d (by simp)
   have h5:¬ (len (k::id::c::d::r)<4):=by simp only[len,List.length_cons]; omega
   have i0:idx (k::id::c::d::r) 0=some k:=(dN _ 0).trans rfl
   have i1:idx (k::id::c::d::r) 1=some id:=(dN _ 1).trans rfl
   have i2:idx (k::id::c::d::r) 2=some c:=(dN _ 2).trans rfl
   have i3:idx (k::id::c::d::r) 3=some d:=(dN _ 3).trans rfl
   unfold Wn
   rw[if_neg (fun h=>h5 (of_decide_eq_true h)),i0,bs,i1,bs]
   show Y4 FF (k::id::c::d::r) ⟨aH k,aH id,0,0,0,0,0,0,0,⟨0,0,0,0,0⟩⟩=_
   rw[bJ (by have:=hk.1; omega) (by have:=hk.2; omega),bJ (by have:=hid.1; omega) (by have:=hid.2; omega)]
   show _=some (jk k id (c+256 * d) (k::id::c::d::r))
   have hN:=dV hb 2 2 (by decide) (by simp) (by decide)
   rw[Ob]at hN
   have hnr:0≤c+256 * d∧c+256 * d<65536:=by
    have:=hc.1; have:=hc.2; have:=hd.1; have:=hd.2; omega
   generalize hB:k::id::c::d::r=B at *
   generalize c+256 * d=n at *
   have hBl:4≤B.length:=by rw[← hB]; simp
   clear hB i0 i1 i2 i3 h5
   unfold Y4 jk
   rw[fJ]
   show(if (!(aI k).Known)=true then _ else _)=_
   by_cases hkn:(aI k).Known=true
   ·rw[if_neg (show ¬ ((!(aI k).Known)=true) by simp[hkn]),if_neg (show ¬ ((aI k).Known=false) by simp[hkn])]
    show(if (id == 0)=true then _ else _)=_
    by_cases h0:id=0
    ·rw[if_pos (by simp[h0]),if_pos h0]; rfl
    rw[if_neg (by simp[h0]),if_neg h0]
    obtain⟨z,hz,hzl⟩:=Jj k id hkn
    have hsum:=wB k
    show(Sj FF (ks k id)).bind _=_
    rw[hz,bs]
    show(q9 FF B ((2:Nat):Int) ((2:Nat):Int)).bind _=_
    rw[hN,bs,bJ (by omega) (by omega),lN,hzl,lN,bJ (by omega) (by omega)]
    by_cases hn:n=(eu (fO k):Int)
    ·rw[if_neg (by simp[hn]),if_neg (show ¬ (n≠(eu (fO k):Int))from not_not_intro hn)]
     by_cases hsh:B.length<4+eu (fO k)
     ·rw[if_pos (by simp; omega),if_pos hsh]; rfl
     ·rw[if_neg (by simp; omega),if_neg hsh]
      by_cases hlo:4+eu (fO k)<B.length
      ·rw[if_pos (by simp; omega),if_pos hlo]; rfl
      ·rw[if_neg (by simp; omega),if_neg hlo]
       show(qj FF (ks k id) B).bind _=_
       rw[mX hb k id hkn (by omega),bs,zo FF,bs]
       by_cases hch:qG (fq k id B)=0
       ·rw[if_neg (by simp[hch]),if_neg (show ¬ (qG (fq k id B)≠0)from not_not_intro hch)]
       ·rw[if_pos (by simp[hch]),if_pos hch]; rfl
    ·rw[if_pos (by simpa using hn),if_pos hn]; rfl
   ·have hk0:(aI k).Known=false:=by simpa using hkn
    rw[if_pos (by simp[hk0]),if_pos hk0]; rfl
end Sg
end V
end Go.Proofs.YtbgfhaahhdnogaaGreat

namespace Go.Proofs.YtbgfhaahhdnogaaGreat
namespace V
namespace Sg
theorem Rk{x:Int}(h:0≤x∧x<256):gX x=x:=EI h.1 h.2
theorem IQ{k:Int}(hk:(aI k).Known=true):0≤k∧k<256:=by
 rcases kinds k with rfl | rfl | rfl | rfl | rfl | rfl | rfl | rfl | h
 any_goals decide
 obtain⟨g1,g2,g3,g4,g5,g6,g7,g8⟩:=h
 simp[aI,g1,g2,g3,g4,g5,g6,g7,g8]at hk
theorem TY{s:aO}(h:qG s=0):rV s=s.Kind::s.ID::((eF s).length:Int)::0::eF s:=by
 obtain⟨h1,h2,h3,_⟩:=jI h
 have:=rY s
 unfold rV
 rw[Rk (IQ h1),Rk (by omega),Rk (by omega)]
 rfl
theorem dO{x y:Int}(hx:Byte x)(hy:Byte y):pz 2 (num [x,y])=[x,y]:=by
 have:=Ar (l:=[x,y]) (by simp[hx,hy])
 exact this
theorem LW{x:Int}(hx:Byte x):pz 1 (num [x])=[x]:=by
 have:=Ar (l:=[x]) (by simp[hx])
 exact this
theorem Jk(k id c d:Int)(r:List Int)(hb:∀x∈r,Byte x)(hk:(aI k).Known=true)(hr:r.length=eu (fO k)):eF (fq k id (k::id::c::d::r))=r:=by
 rcases kinds k with rfl | rfl | rfl | rfl | rfl | rfl | rfl | rfl | h
 ·match r,hr,hb with
  | [x0,x1],_,hb=>
    have e0:=dO (hb x0 (by simp)) (hb x1 (by simp))
    simp[fq,eF,aY,iF,e0]
 ·match r,hr,hb with
  | [x0,x1,x2,x3],_,hb=>
    have e0:=dO (hb x0 (by simp)) (hb x1 (by simp))
    have e1:=dO (hb x2 (by simp)) (hb x3 (by simp))
    simp[fq,eF,aY,iF,e0,e1]
 ·match r,hr,hb with
  | [x0,x1,x2,x3],_,hb=>
    have e0:=dO (hb x0 (by simp)) (hb x1 (by simp))
    have e1:=dO (hb x2 (by simp)) (hb x3 (by simp))
    simp[fq,eF,aY,iF,e0,e1]
 ·match r,hr,hb with
  | [x0,x1,x2,x3,x4,x5,x6,x7,x8],_,hb=>
    have e0:=LW (hb x0 (by simp))
    have e1:=dO (hb x1 (by simp)) (hb x2 (by simp))
    have e2:=dO (hb x3 (by simp)) (hb x4 (by simp))
    have e3:=dO (hb x5 (by simp)) (hb x6 (by simp))
    have e4:=dO (hb x7 (by simp)) (hb x8 (by simp))
    simp[fq,eF,aY,iF,e0,e1,e2,e3,e4]
 ·match r,hr,hb with
  | [x0,x1],_,hb=>
    have e0:=dO (hb x0 (by simp)) (hb x1 (by simp))
    simp[fq,eF,aY,iF,e0]
 ·match r,hr,hb with
  | [x0,x1,x2,x3,x4,x5,x6,x7,x8,x9],_,hb=>
    have e0:=dO (hb x0 (by simp)) (hb x1 (by simp))
    have e1:=dO (hb x2 (by simp)) (hb x3 (by simp))
    have e2:=dO (hb x4 (by simp)) (hb x5 (by simp))
    have e3:=dO (hb x6 (by simp)) (hb x7 (by simp))
    have e4:=dO (hb x8 (by simp)) (hb x9 (by simp))
    simp[fq,eF,aY,iF,e0,e1,e2,e3,e4]
 ·match r,hr,hb with
  | [x0,x1,x2,x3,x4,x5,x6,x7,x8,x9],_,hb=>
    have e0:=dO (hb x0 (by simp)) (hb x1 (by simp))
    have e1:=dO (hb x2 (by simp)) (hb x3 (by simp))
    have e2:=dO (hb x4 (by simp)) (hb x5 (by simp))
    have e3:=dO (hb x6 (by simp)) (hb x7 (by simp))
    have e4:=dO (hb x8 (by simp)) (hb x9 (by simp))
    simp[fq,eF,aY,iF,e0,e1,e2,e3,e4]
 ·match r,hr,hb with
  | [x0,x1,x2,x3],_,hb=>
    have e0:=dO (hb x0 (by simp)) (hb x1 (by simp))
    have e1:=dO (hb x2 (by simp)) (hb x3 (by simp))
    simp[fq,eF,aY,iF,e0,e1]
 ·obtain⟨g1,g2,g3,g4,g5,g6,g7,g8⟩:=h
  simp[aI,g1,g2,g3,g4,g5,g6,g7,g8]at hk
theorem I9(k id:Int)(b:List Int):(fq k id b).Kind=k∧(fq k id b).ID=id:=by
 unfold fq
 (repeat' split) <;> exact⟨rfl,rfl⟩
theorem Lg{b:List Int}(hb:∀x∈b,Byte x)(k id:Int):0≤(fq k id b).bg∧(fq k id b).bg≤65535:=by
 have r2:=lG hb 4 2 (.inr rfl)
 unfold fq
 (repeat' split) <;> first | exact⟨Int.le_refl 0,(by decide:(0:Int)≤65535)⟩ | exact⟨r2.1,by show iF b 4 2≤_; omega⟩
theorem Jc(b:List Int)(hb:∀x∈b,Byte x):((oL b).1=zs∧(oL b).2≠0)∨((oL b).2=0∧qG (oL b).1=0∧(0≤(oL b).1.bg∧(oL b).1.bg≤65535)∧rV (oL b).1=b):=by
 match b,hb with
 | [],_=>exact .inl ⟨rfl,show(3:Int)≠0 by decide⟩
 | [_],_=>exact .inl ⟨rfl,show(3:Int)≠0 by decide⟩
 | [_,_],_=>exact .inl ⟨rfl,show(3:Int)≠0 by decide⟩
 | [_,_,_],_=>exact .inl ⟨rfl,show(3:Int)≠0 by decide⟩
 | k::id::c::d::r,hb=>
   show((jk k id (c+256 * d) (k::id::c::d::r)).1=zs∧(jk k id (c+256 * d) (k::id::c::d::r)).2≠0)∨((jk k id (c+256 * d) (k::id::c::d::r)).2=0∧qG (jk k id (c+256 * d) (k::id::c::d::r)).1=0∧(0≤(jk k id (c+256 * d) (k::id::c::d::r)).1.bg∧(jk k id (c+256 * d) (k::id::c::d::r)).1.bg≤65535)∧rV (jk k id (c+256 * d) (k::id::c::d::r)).1=k::id::c::d::r)
   have hc:=hb c (by simp)
   have hd:=hb d (by simp)
   have hbr:∀x∈r,Byte x:=fun x hx=>hb x (by simp[hx])
   have hps:=Lg hb k id
   have hfh:=I9 k id (k::id::c::d::r)
   have hbf:=fun hk hr=>Jk k id c d r hbr hk hr
   have hlen:(k::id::c::d::r).length=4+r.length:=by simp only[List.length_cons]; omega
   have hsum:=wB k
   unfold jk
   generalize hS:fq k id (k::id::c::d::r)=S at *
   rw[hlen]
   by_cases h1:(aI k).Known=false
   ·rw[if_pos h1]; exact .inl ⟨rfl,show(12:Int)≠0 by decide⟩
   rw[if_neg h1]
   by_cases h2:id=0
   ·rw[if_pos h2]; exact .inl ⟨rfl,show(5:Int)≠0 by decide⟩
   rw[if_neg h2]
   by_cases h3:c+256 * d=(eu (fO k):Int)
   ·rw[if_neg (not_not_intro h3)]
    by_cases h4:4+r.length<4+eu (fO k)
    ·rw[if_pos h4]; exact .inl ⟨rfl,show(3:Int)≠0 by decide⟩
    rw[if_neg h4]
    by_cases h5:4+eu (fO k)<4+r.length
    ·rw[if_pos h5]; exact .inl ⟨rfl,show(2:Int)≠0 by decide⟩
    rw[if_neg h5]
    by_cases h6:qG S=0
    ·rw[if_neg (not_not_intro h6)]
     refine .inr ⟨rfl,h6,hps,?_⟩
     show rV S=_
     have hr:r.length=eu (fO k):=by omega
     have hd0:d=0:=by have:=hc.1; have:=hc.2; have:=hd.1; omega
     rw[TY h6,hfh.1,hfh.2,hbf (by simpa using h1) hr,hd0,show((r.length:Nat):Int)=c from by omega]
    ·rw[if_pos h6]
     exact .inl ⟨rfl,h6⟩
   ·rw[if_pos h3]; exact .inl ⟨rfl,show(2:Int)≠0 by decide⟩
end Sg
end V
end Go.Proofs.YtbgfhaahhdnogaaGreat

namespace Go.Proofs.YtbgfhaahhdnogaaGreat
namespace V
namespace Fr
theorem dt{p:Prop} [Decidable p](h:p):decide p=true:=decide_eq_true h
theorem df{p:Prop} [Decidable p](h:¬ p):¬ decide p=true:=fun e=>h (of_decide_eq_true e)
structure FOk(f:eU):Prop where
 c0:0≤f.cO
 c1:f.cO<65536
def bytesOf(f:eU):List Int:=pz 2 f.Payload.length++(pz 2 f.cO++f.Payload)
def enc(f:eU):List Int×Int:=
 if f.cO=0 then([],1)else if 65531<f.Payload.length then([],4)else(bytesOf f,0)
theorem TW{f:eU}(h:FOk f):q5i FF f=some (enc f):=by
 obtain⟨c0,c1⟩:=h
 unfold q5i enc
 by_cases h0:f.cO=0
 ·rw[if_pos (by simpa using h0),if_pos h0]
 rw[if_neg (by simpa using h0),if_neg h0]
 by_cases h1:65531<f.Payload.length
 ·rw[if_pos (dt (show len f.Payload > 65531 from by rw[lN]; omega)),if_pos h1]
 rw[if_neg (df (show ¬ len f.Payload > 65531 from by rw[lN]; omega)),if_neg h1]
 have e1:wu64 (len f.Payload)=f.Payload.length:=eX (by simp[len]) (by simp[len]; omega)
 have e2:wu64 f.cO=f.cO:=eX (by omega) (by omega)
 rw[e1,e2,Gp FF [⟨2,f.Payload.length⟩,⟨2,f.cO⟩] (fun g hg=>by
  simp only[List.mem_cons,List.not_mem_nil,or_false]at hg
  rcases hg with rfl | rfl
  ·exact⟨by show(1:Int)≤2; decide,by show(2:Int)≤8; decide,by simp only; omega,by simp only; omega,by show(f.Payload.length:Int)<256 ^ 2; rw[show(256:Int) ^ 2=65536 from by decide]; omega⟩
  ·exact⟨by show(1:Int)≤2; decide,by show(2:Int)≤8; decide,by simp only; omega,by simp only; omega,by show f.cO<256 ^ 2; rw[show(256:Int) ^ 2=65536 from by decide]; omega⟩) (by simp) (by unfold FF; simp)]
 simp only[bs]
 have e3:jl [⟨2,f.Payload.length⟩,⟨2,f.cO⟩]=pz 2 f.Payload.length++pz 2 f.cO:=by simp[jl]
 rw[if_neg (by simp),e3,xI FF _ _ (by unfold FF; omega) (by simp[lL]; omega)]
 simp[bytesOf]
theorem Nz{f:eU}(h:FOk f):ZG FF f=some (enc f):=by
 obtain⟨c0,c1⟩:=h
 unfold ZG enc
 by_cases h0:f.cO=0
 ·rw[if_pos (by simpa using h0),if_pos h0]
 rw[if_neg (by simpa using h0),if_neg h0]
 by_cases h1:65531<f.Payload.length
 ·rw[if_pos (dt (show len f.Payload > 65531 from by rw[lN]; omega)),if_pos h1]
 rw[if_neg (df (show ¬ len f.Payload > 65531 from by rw[lN]; omega)),if_neg h1]
 have e1:wu64 (len f.Payload)=f.Payload.length:=eX (by simp[len]) (by simp[len]; omega)
 have e2:wu64 f.cO=f.cO:=eX (by omega) (by omega)
 have r1:=rz FF (f.Payload.length:Int) 2 (by unfold FF; omega) (by omega) (by omega) (by omega)
 have r2:=rz FF f.cO 2 (by unfold FF; omega) (by omega) c0 (by omega)
 rw[e1,e2,show(2:Int)=((2:Nat):Int)from rfl,r1,r2]
 simp only[bs]
 rw[jB (by simp[lL])]
 simp only[bs,qaz]
 rw[jB (by simp[lL]; omega)]
 simp[bytesOf]
theorem AA{x:Int}(hx:Byte x):jR .i64 (aH x) 8=x * 256:=by
 obtain⟨h0,h1⟩:=hx
 unfold jR
 rw[wrap_i64,bJ (x:=x) (by omega) (by omega),show(2:Int) ^ 8=256 by decide,bJ (by omega) (by omega)]
theorem IY{x:Int}(hx:Byte x):jR .u16 (fB x) 8=x * 256:=by
 obtain⟨h0,h1⟩:=hx
 unfold jR
 rw[wrap_u16,dW (x:=x) (by omega) (by omega),show(2:Int) ^ 8=256 by decide,dW (by omega) (by omega)]
theorem uN(a b:Nat)(ha:a<256):a ||| (b * 256)=a+b * 256:=by
 have h:=Nat.shiftLeft_add_eq_or_of_lt (i:=8) (show a<2 ^ 8 by omega) b
 rw[Nat.shiftLeft_eq]at h
 rw[Nat.or_comm,show(256:Nat)=2 ^ 8 from rfl,← h,Nat.add_comm]
theorem Ao{x y:Int}(hx:Byte x)(hy:Byte y):qF .i64 (aH x) (y * 256)=x+256 * y:=by
 obtain⟨h0,h1⟩:=hx
 obtain⟨g0,g1⟩:=hy
 rw[bJ (by omega) (by omega)]
 obtain⟨x,rfl⟩:=Int.eq_ofNat_of_zero_le h0
 obtain⟨y,rfl⟩:=Int.eq_ofNat_of_zero_le g0
 unfold qF
 have e:(BitVec.ofInt IntKind.i64.bits (x:Int) ||| BitVec.ofInt IntKind.i64.bits ((y:Int) * 256)).toNat=x+y * 256:=by
  rw[show((y:Int) * 256)=((y * 256:Nat):Int)from by rw[Int.natCast_mul]; rfl,BitVec.toNat_or]
  show(BitVec.ofInt 64 (x:Int)).toNat ||| (BitVec.ofInt 64 ((y * 256:Nat):Int)).toNat=_
  rw[BitVec.toNat_ofInt,BitVec.toNat_ofInt]
  rw[show(((x:Nat):Int) % ((2 ^ 64:Nat):Int)).toNat=x from by rw[← Int.natCast_emod,Int.toNat_natCast,Nat.mod_eq_of_lt (by omega)]]
  rw[show(((y * 256:Nat):Int) % ((2 ^ 64:Nat):Int)).toNat=y * 256 from by rw[← Int.natCast_emod,Int.toNat_natCast,Nat.mod_eq_of_lt (by omega)]]
  exact uN x y (by omega)
 rw[e,wrap_i64,bJ (by omega) (by omega)]
 omega
theorem Ip{x y:Int}(hx:Byte x)(hy:Byte y):qF .u16 (fB x) (y * 256)=x+256 * y:=by
 obtain⟨h0,h1⟩:=hx
 obtain⟨g0,g1⟩:=hy
 rw[dW (by omega) (by omega)]
 obtain⟨x,rfl⟩:=Int.eq_ofNat_of_zero_le h0
 obtain⟨y,rfl⟩:=Int.eq_ofNat_of_zero_le g0
 unfold qF
 have e:(BitVec.ofInt IntKind.u16.bits (x:Int) ||| BitVec.ofInt IntKind.u16.bits ((y:Int) * 256)).toNat=x+y * 256:=by
  rw[show((y:Int) * 256)=((y * 256:Nat):Int)from by rw[Int.natCast_mul]; rfl,BitVec.toNat_or]
  show(BitVec.ofInt 16 (x:Int)).toNat ||| (BitVec.ofInt 16 ((y * 256:Nat):Int)).toNat=_
  rw[BitVec.toNat_ofInt,BitVec.toNat_ofInt]
  rw[show(((x:Nat):Int) % ((2 ^ 16:Nat):Int)).toNat=x from by rw[← Int.natCast_emod,Int.toNat_natCast,Nat.mod_eq_of_lt (by omega)]]
  rw[show(((y * 256:Nat):Int) % ((2 ^ 16:Nat):Int)).toNat=y * 256 from by rw[← Int.natCast_emod,Int.toNat_natCast,Nat.mod_eq_of_lt (by omega)]]
  exact uN x y (by omega)
 rw[e,wrap_u16,dW (by omega) (by omega)]
 omega
def hd:List Int→Int×Int
 | a::b::c::d::_=>(a+256 * b,c+256 * d)
 | _=>(0,0)
theorem four{b:List Int}(h:4≤b.length):∃x y z u r,b=x::y::z::u::r:=by
 match b,h with
 | x::y::z::u::r,_=>exact⟨x,y,z,u,r,rfl⟩
theorem IZ{b:List Int}(hb:∀x∈b,Byte x)(h:4≤b.length):q5j FF b=some (hd b):=by
 obtain⟨x,y,z,u,r,rfl⟩:=four h
 have hx:=hb x (by simp)
 have hy:=hb y (by simp)
 have hz:=hb z (by simp)
 have hu:=hb u (by simp)
 unfold q5j
 rw[show idx (x::y::z::u::r) 0=some x from rfl,bs,show idx (x::y::z::u::r) 1=some y from rfl,bs,
  show idx (x::y::z::u::r) 2=some z from rfl,bs,show idx (x::y::z::u::r) 3=some u from rfl,bs,
  AA hy,IY hu,Ao hx hy,Ip hz hu]
 rfl
theorem K5{b:List Int}(hb:∀x∈b,Byte x):0≤(hd b).1∧(hd b).1<65536∧0≤(hd b).2∧(hd b).2<65536:=by
 match b,hb with
 | [],_=>simp[hd]
 | [_],_=>simp[hd]
 | [_,_],_=>simp[hd]
 | [_,_,_],_=>simp[hd]
 | x::y::z::u::r,hb=>
   have hx:=hb x (by simp)
   have hy:=hb y (by simp)
   have hz:=hb z (by simp)
   have hu:=hb u (by simp)
   unfold Byte at hx hy hz hu
   simp only[hd]
   omega
theorem J9{b:List Int}(hb:∀x∈b,Byte x)(h:4≤b.length):ZC FF b=some (hd b):=by
 have hr:=K5 hb
 obtain⟨x,y,z,u,r,rfl⟩:=four h
 have hx:=hb x (by simp)
 have hy:=hb y (by simp)
 have hz:=hb z (by simp)
 have hu:=hb u (by simp)
 have n1:=Ai FF (x::y::z::u::r) [x,y] 0 (by unfold FF; simp) (fun q hq=>by
  simp only[List.mem_cons,List.not_mem_nil,or_false]at hq
  rcases hq with rfl | rfl <;> assumption) (by simp) (by omega) (fun i hi=>by
  match i,hi with
  | 0,_=>rfl
  | 1,_=>rfl)
 have n2:=Ai FF (x::y::z::u::r) [z,u] 2 (by unfold FF; simp) (fun q hq=>by
  simp only[List.mem_cons,List.not_mem_nil,or_false]at hq
  rcases hq with rfl | rfl <;> assumption) (by simp) (by omega) (fun i hi=>by
  match i,hi with
  | 0,_=>rfl
  | 1,_=>rfl)
 unfold ZC
 have e1:q9 FF (x::y::z::u::r) 0 2=some (num [x,y]):=n1
 have e2:q9 FF (x::y::z::u::r) 2 2=some (num [z,u]):=n2
 rw[e1,bs,e2,bs]
 unfold Byte at hx hy hz hu
 simp only[num,hd]
 rw[bJ (by omega) (by omega),dW (by omega) (by omega)]
 simp only[Int.mul_zero,Int.add_zero]
theorem VI{b:List Int}(h:4≤b.length):sub b 4 (len b)=some (b.drop 4):=by
 rw[lN,show(4:Int)=((4:Nat):Int)from rfl,gB b 4 b.length h (Nat.le_refl _),List.take_length]
theorem nQ(f:eU):(bytesOf f).length=f.Payload.length+4:=by simp[bytesOf,lL]; omega
end Fr
end V
end Go.Proofs.YtbgfhaahhdnogaaGreat

namespace Go.Proofs.YtbgfhaahhdnogaaGreat
namespace V
namespace Fr
def az:gV:=⟨false,[]⟩
structure Val(a:gV):Prop where
 off:a.On=false→a.Buffer=[]
 on:a.On=true→a.Buffer≠[]
 hdr:a.On=true→4≤a.Buffer.length→(hd a.Buffer).2≠0∧(hd a.Buffer).1≤65531∧(a.Buffer.length:Int) - 4<(hd a.Buffer).1
 byt:∀x∈a.Buffer,Byte x
theorem Val.len{a:gV}(h:Val a):a.Buffer.length≤65535:=by
 cases ho:a.On with
 | false=>rw[h.off ho]; simp
 | true=>
   rcases Nat.lt_or_ge a.Buffer.length 4 with h4 | h4
   ·omega
   ·have:=h.hdr ho h4
    omega
theorem vZ:Val az:=⟨fun _=>rfl,(fun h=>by cases h),(fun h=>by cases h),fun x hx=>by simp[az]at hx⟩
def Ez(b:List Int)(e:Int):gV×List eU×Int:=
 if b.length<4 then(⟨true,b⟩,[],e)
 else if (hd b).2=0 then(az,[],if e=0 then 1 else e)
 else if 65531<(hd b).1∨(hd b).1<(b.length:Int) - 4 then(az,[],if e=0 then 4 else e)
 else if (b.length:Int) - 4<(hd b).1 then(⟨true,b⟩,[],e)
 else(az,[⟨(hd b).2,b.drop 4⟩],e)
theorem GJ{b:List Int}(hb:∀x∈b,Byte x)(hne:b≠[])(e:Int):Val (Ez b e).1:=by
 unfold Ez
 split
 ·rename_i h0
  exact⟨(fun h=>by cases h),fun _=>hne,(fun _ h=>by simp only at h; omega),hb⟩
 ·split
  ·exact vZ
  ·rename_i h1
   split
   ·exact vZ
   ·rename_i h2
    split
    ·rename_i h3
     exact⟨(fun h=>by cases h),fun _=>hne,fun _ _=>⟨h1,by simp only; omega,h3⟩,hb⟩
    ·exact vZ
theorem xR(b:List Int)(e:Int):(Ez b e).2.1.length≤1:=by
 unfold Ez
 (repeat' split) <;> simp
theorem GI(e x:Int):Wd FF e x=some (az,[],if e=0 then x else e):=by
 unfold Wd
 by_cases h:e=0
 ·rw[if_pos (show(e == 0)=true from by simpa using h),if_pos h]; rfl
 ·rw[if_neg (show ¬ (e == 0)=true from by simpa using h),if_neg h]; rfl
theorem TQ{b:List Int}(hb:∀x∈b,Byte x)(hl:b.length≤1000000)(e:Int):q5k FF b e=some (Ez b e):=by
 unfold q5k Ez
 by_cases h0:b.length<4
 ·rw[if_pos (dt (show len b<4 from by rw[lN]; omega)),if_pos h0]
 rw[if_neg (df (show ¬ len b<4 from by rw[lN]; omega)),if_neg h0,IZ hb (by omega),bs]
 have ew:aH (len b - 4)=(b.length:Int) - 4:=bJ (by rw[lN]; omega) (by rw[lN]; omega)
 rw[ew]
 by_cases h1:(hd b).2=0
 ·rw[if_pos (show((hd b).2 == 0)=true from by simpa using h1),if_pos h1,GI]
 rw[if_neg (show ¬ ((hd b).2 == 0)=true from by simpa using h1),if_neg h1]
 by_cases h2:65531<(hd b).1∨(hd b).1<(b.length:Int) - 4
 ·rw[if_pos (show(decide ((hd b).1 > 65531)||decide ((b.length:Int) - 4 > (hd b).1))=true from by simpa using h2),if_pos h2,GI]
 rw[if_neg (show ¬ (decide ((hd b).1 > 65531)||decide ((b.length:Int) - 4 > (hd b).1))=true from by simpa using h2),if_neg h2]
 by_cases h3:(b.length:Int) - 4<(hd b).1
 ·rw[if_pos (show decide ((b.length:Int) - 4<(hd b).1)=true from by simpa using h3),if_pos h3]
 rw[if_neg (show ¬ decide ((b.length:Int) - 4<(hd b).1)=true from by simpa using h3),if_neg h3,VI (by omega),bs,join_one FF _ (by unfold FF; omega) (by simp; omega)]
 rfl
theorem J7(b:List Int)(e:Int)(x:Int×Int)(y:Int)(hy:y≠0):R7 FF b e x y=some (az,[],if e=0 then y else e):=by
 unfold R7
 rw[if_pos (show(y != 0)=true from by simpa using hy)]
 by_cases h:e=0
 ·rw[if_neg (show ¬ (e != 0)=true from by simpa using h),if_pos h]; rfl
 ·rw[if_pos (show(e != 0)=true from by simpa using h),if_neg h]; rfl
theorem mX{b:List Int}(hb:∀x∈b,Byte x)(hl:b.length≤1000000)(e:Int):ZB FF b e=some (Ez b e):=by
 unfold ZB Ez
 by_cases h0:b.length<4
 ·rw[if_pos (dt (show len b<4 from by rw[lN]; omega)),if_pos h0]
 rw[if_neg (df (show ¬ len b<4 from by rw[lN]; omega)),if_neg h0,J9 hb (by omega),bs]
 have ew:aH (len b - 4)=(b.length:Int) - 4:=bJ (by rw[lN]; omega) (by rw[lN]; omega)
 rw[ew]
 by_cases h1:(hd b).2=0
 ·rw[if_pos (show((hd b).2 == 0)=true from by simpa using h1),if_pos h1,J7 b e _ 1 (by decide)]
 rw[if_neg (show ¬ ((hd b).2 == 0)=true from by simpa using h1),if_neg h1]
 by_cases h2:65531<(hd b).1∨(hd b).1<(b.length:Int) - 4
 ·rw[if_pos (show(decide ((hd b).1 > 65531)||decide ((b.length:Int) - 4 > (hd b).1))=true from by simpa using h2),if_pos h2,J7 b e _ 4 (by decide)]
 rw[if_neg (show ¬ (decide ((hd b).1 > 65531)||decide ((b.length:Int) - 4 > (hd b).1))=true from by simpa using h2),if_neg h2]
 unfold R7
 rw[if_neg (show ¬ ((0:Int) != 0)=true from by decide),ew]
 by_cases h3:(b.length:Int) - 4<(hd b).1
 ·rw[if_pos (show decide ((b.length:Int) - 4<(hd b).1)=true from by simpa using h3),if_pos h3]
 rw[if_neg (show ¬ decide ((b.length:Int) - 4<(hd b).1)=true from by simpa using h3),if_neg h3,VI (by omega),bs]
 rfl
def feed(a:gV)(p:jL):gV×List eU×Int:=
 if p.bF=1∧p.Payload=[]then(a,[],0)
 else if (p.bF≠1∧p.bF≠2)∨p.Payload=[]then(a,[],12)
 else if p.bF=2 then Ez p.Payload (if a.On=true then 13 else 0)
 else if a.On=false then(az,[],13)
 else Ez (a.Buffer++p.Payload) 0
theorem xC(l:List Int):(len l == 0)=decide (l=[]):=by
 cases l with
 | nil=>rfl
 | cons x r=>
   have h1:(len (x::r) == 0)=false:=by
    rw[beq_eq_false_iff_ne,lN,List.length_cons]
    omega
   rw[h1]
   simp
theorem jr{a:gV}(h:a.Buffer.length≤140737488355328):WO FF a=some a:=by
 unfold WO q9r
 rw[join_one FF _ (by unfold FF; omega) h]
 rfl
theorem OM{a:gV}{p:jL}(ha:Val a)(hp:∀x∈p.Payload,Byte x)(hl:p.Payload.length≤200000):q4m FF a p=some (feed a p):=by
 have hal:=ha.len
 have hc:=jr (a:=a) (by omega)
 unfold q4m feed
 rw[xC p.Payload,xC a.Buffer]
 have hemp:((!a.On)&&decide (a.Buffer=[])) = !a.On:=by
  cases ho:a.On with
  | false=>simp[ha.off ho]
  | true=>simp
 rw[hemp]
 by_cases h0:p.bF=1∧p.Payload=[]
 ·rw[if_pos (show((p.bF == 1)&&decide (p.Payload=[]))=true from by simpa using h0),if_pos h0,hc]; rfl
 rw[if_neg (show ¬ ((p.bF == 1)&&decide (p.Payload=[]))=true from by simpa using h0),if_neg h0]
 by_cases h1:(p.bF≠1∧p.bF≠2)∨p.Payload=[]
 ·rw[if_pos (show(((p.bF != 1)&&(p.bF != 2))||decide (p.Payload=[]))=true from by simpa using h1),if_pos h1,hc]; rfl
 rw[if_neg (show ¬ (((p.bF != 1)&&(p.bF != 2))||decide (p.Payload=[]))=true from by simpa using h1),if_neg h1]
 have j1:∀(x:Int) (b:List Int),(∀x∈b,Byte x)→b.length≤1000000→V9 FF x b=some (Ez b x):=fun x b hb hbl=>by
  unfold V9
  rw[TQ hb hbl]
  rfl
 have j2:∀x,V8 FF p x=some (Ez p.Payload x):=fun x=>by
  unfold V8
  rw[join_one FF _ (by unfold FF; omega) (by omega),bs,j1 x _ hp (by omega)]
 by_cases h2:p.bF=2
 ·rw[if_pos (show(p.bF == 2)=true from by simpa using h2),if_pos h2]
  cases ho:a.On with
  | false=>rw[if_neg (by decide),j2]; rfl
  | true=>rw[if_pos (by decide),j2]; rfl
 rw[if_neg (show ¬ (p.bF == 2)=true from by simpa using h2),if_neg h2]
 cases ho:a.On with
 | false=>rfl
 | true=>
   rw[if_neg (by decide),if_neg (by decide),xI FF _ _ (by unfold FF; omega) (by omega),bs,j1 0 _ (fun x hx=>(List.mem_append.1 hx).elim (ha.byt x) (hp x)) (by simp; omega)]
theorem Ka{a:gV}{p:jL}(ha:Val a)(hp:∀x∈p.Payload,Byte x)(hl:p.Payload.length≤200000):ZA FF a p=some (feed a p):=by
 have hal:=ha.len
 unfold ZA feed q89
 rw[xC p.Payload,bs]
 by_cases h0:p.bF=1∧p.Payload=[]
 ·rw[if_pos (show((p.bF == 1)&&decide (p.Payload=[]))=true from by simpa using h0),if_pos h0]
 rw[if_neg (show ¬ ((p.bF == 1)&&decide (p.Payload=[]))=true from by simpa using h0),if_neg h0]
 by_cases h1:(p.bF≠1∧p.bF≠2)∨p.Payload=[]
 ·rw[if_pos (show(((p.bF != 2)&&(p.bF != 1))||decide (p.Payload=[]))=true from by rw[Bool.and_comm]; simpa using h1),if_pos h1]
 rw[if_neg (show ¬ (((p.bF != 2)&&(p.bF != 1))||decide (p.Payload=[]))=true from by rw[Bool.and_comm]; simpa using h1),if_neg h1]
 have j1:∀(x:Int) (b:List Int),(∀x∈b,Byte x)→b.length≤1000000→VY FF x b=some (Ez b x):=fun x b hb hbl=>by
  unfold VY
  rw[mX hb hbl]
  rfl
 have j2:∀x,VX FF p x=some (Ez p.Payload x):=fun x=>by
  unfold VX
  rw[jB (by simp; omega),bs,List.nil_append,j1 x _ hp (by omega)]
 by_cases h2:p.bF=2
 ·rw[if_pos (show(p.bF == 2)=true from by simpa using h2),if_pos h2]
  cases ho:a.On with
  | false=>rw[if_neg (by decide),j2]; rfl
  | true=>rw[if_pos (by decide),j2]; rfl
 rw[if_neg (show ¬ (p.bF == 2)=true from by simpa using h2),if_neg h2]
 cases ho:a.On with
 | false=>rfl
 | true=>
   rw[if_neg (by decide),if_neg (by decide),jB (by simp; omega),bs,List.nil_append,jB (by omega),bs,j1 0 _ (fun x hx=>(List.mem_append.1 hx).elim (ha.byt x) (hp x)) (by simp; omega)]
theorem Li{a:gV}{p:jL}(ha:Val a)(hp:∀x∈p.Payload,Byte x):Val (feed a p).1:=by
 unfold feed
 split
 ·exact ha
 ·split
  ·exact ha
  ·rename_i h1
   have hne:p.Payload≠[]:=fun h=>h1 (.inr h)
   split
   ·exact GJ hp hne _
   ·split
    ·exact vZ
    ·exact GJ (fun x hx=>(List.mem_append.1 hx).elim (ha.byt x) (hp x)) (by simp[hne]) _
theorem Du(a:gV)(p:jL):(feed a p).2.1.length≤1:=by
 unfold feed
 split
 ·simp
 ·split
  ·simp
  ·split
   ·exact xR _ _
   ·split
    ·simp
    ·exact xR _ _
end Fr
end V
end Go.Proofs.YtbgfhaahhdnogaaGreat

namespace Go.Proofs.YtbgfhaahhdnogaaGreat
namespace V
theorem dt{p:Prop} [Decidable p](h:p):decide p=true:=decide_eq_true h
theorem df{p:Prop} [Decidable p](h:¬ p):¬ decide p=true:=fun e=>h (of_decide_eq_true e)
def fidx{α:Type}(p:α→Bool)(l:List α):Int:=match l.findIdx? p with
 | some i=>(i:Int)
 | none=>-1
theorem xL{α γ β:Type}{body:γ×Int→Option (Out (γ×Int) (Sum γ β))}{l:List α}{p:α→Bool}{c:γ}{g:Int→β}(h:∀(i:Nat) x,l[i]? = some x→body (c,(i:Int))=some (if p x=true then .done (.inr (g (i:Int)))else .next (c,((i+1:Nat):Int))))(he:body (c,(l.length:Int))=some (.done (.inl c))) :
 ∀(m:List α) (F k:Nat),l.drop k=m→k≤l.length→m.length<F→iter body F (c,(k:Int))=some (match m.findIdx? p with
  | some i=>.inr (g ((k+i:Nat):Int))
  | none=>.inl c)
 | [],F,k,hd,hk,hF=>by
   have hk2:k=l.length:=by
    have:=congrArg List.length hd
    rw[List.length_drop,List.length_nil]at this
    omega
   subst hk2
   cases F with
   | zero=>simp at hF
   | succ F=>rw[bE he]; rfl
 | x::m,F,k,hd,hk,hF=>by
   have hx:l[k]? = some x:=by
    have:=congrArg (fun z:List α=>z[0]?) hd
    simpa using this
   have hlt:=(gS.1 hx).1
   have hd2:l.drop (k+1)=m:=by
    have:=congrArg List.tail hd
    simpa using this
   have hb:=h k x hx
   cases F with
   | zero=>simp at hF
   | succ F=>
     rw[List.findIdx?_cons]
     by_cases hp:p x=true
     ·rw[if_pos hp]at hb
      rw[bE hb,if_pos hp]
      simp
     ·rw[if_neg hp]at hb
      rw[bH hb,xL h he m F (k+1) hd2 hlt (by simp at hF; omega),if_neg hp]
      cases m.findIdx? p with
      | none=>rfl
      | some i=>
        simp only[Option.map_some]
        rw[show k+1+i=k+(i+1) by omega]
theorem jq{α γ β:Type}{body:γ×Int→Option (Out (γ×Int) (Sum γ β))}{l:List α}{p:α→Bool}{c:γ}{g:Int→β}(h:∀(i:Nat) x,l[i]? = some x→body (c,(i:Int))=some (if p x=true then .done (.inr (g (i:Int)))else .next (c,((i+1:Nat):Int))))(he:body (c,(l.length:Int))=some (.done (.inl c)))
 {F:Nat} (hF:l.length<F):iter body F (c,0)=some (match l.findIdx? p with
  | some i=>.inr (g (i:Int))
  | none=>.inl c):=by
 have:=xL h he l F 0 (by simp) (by omega) hF
 rw[show((0:Nat):Int)=0 from rfl]at this
 rw[this]
 cases l.findIdx? p with
 | none=>rfl
 | some i=>simp
theorem pK{α:Type}(p:α→Bool)(l:List α):(fidx p l = -1∧l.any p=false)∨∃(i:Nat) (x:α),fidx p l=(i:Int)∧l[i]? = some x∧p x=true∧∀j,j<i→∀y,l[j]? = some y→p y=false:=by
 unfold fidx
 cases h:l.findIdx? p with
 | none=>
   refine .inl ⟨rfl,?_⟩
   rw[List.findIdx?_eq_none_iff]at h
   rw[List.any_eq_false]
   intro x hx
   simp[h x hx]
 | some i=>
   rw[List.findIdx?_eq_some_iff_getElem]at h
   obtain⟨h1,h2,h3⟩:=h
   refine .inr ⟨i,l[i],rfl,gE h1,h2,fun j hj y hy=>?_⟩
   have h4:=h3 j hj
   rw[gE (by omega)]at hy
   injection hy with hy
   rw[← hy]
   simpa using h4
theorem kr{α:Type}(p:α→Bool)(l:List α):decide (fidx p l≥0)=l.any p:=by
 rcases pK p l with⟨h1,h2⟩ | ⟨i,x,h1,h2,h3,_⟩
 ·rw[h1,h2]; rfl
 ·rw[h1,List.any_eq_true.2 ⟨x,List.mem_of_getElem? h2,h3⟩]
  exact dt (by omega)
theorem upd_same{α:Type}{l:List α}{i:Nat}{x:α}(h:l[i]? = some x):upd l (i:Int) x=some l:=by
 have hlt:=(gS.1 h).1
 unfold upd
 rw[if_pos (by omega),Int.toNat_natCast]
 congr 1
 apply List.ext_getElem?
 intro j
 rw[List.getElem?_set]
 split
 ·rename_i e
  subst e
  exact h.symm
 ·rfl
theorem aP{α:Type}{l:List α}{i:Nat}{x:α}(h:l[i]? = some x):idx l (i:Int)=some x:=by rw[dN,h]
theorem ji{α:Type}{l:List α}{i:Nat}{x:α}(h:l[i]? = some x):l.take i++[x]=l.take (i+1):=by
 rw[List.take_add_one,h]; rfl
theorem vK(F:Nat)(l:List (List Int))(hF:l.length<F)(hl:l.length<1000000)(hs:l.flatten.length≤140737488355328):qa F l=some l.flatten:=by
 unfold qa q95
 have:=dF (body:=fun s:List Int×Int=>qp F l s.1 s.2) (fun i=>((l.take i).flatten,(i:Int))) l.length l.flatten (fun i hi=>by
  have hx:l[i]? = some l[i]:=gE hi
  have hfl:(l.take i).flatten++l[i]=(l.take (i+1)).flatten:=by rw[← ji hx,List.flatten_append,List.flatten_singleton]
  have hle:(l.take (i+1)).flatten.length≤l.flatten.length:=by
   have h1:=congrArg (fun z=>(List.flatten z).length) (List.take_append_drop (i+1) l)
   simp only[List.flatten_append,lA]at h1
   omega
  show qp F l _ _=_
  unfold qp
  rw[if_pos (by simp[len]; omega)]
  simp only[dN,hx,bs]
  rw[bL (by rw[← lA,hfl]; omega) (by omega)]
  simp only[bs,hfl,wN i (by omega)]) (by
  show qp F l _ _=_
  unfold qp
  rw[if_neg (by simp[len])]
  simp) F 0 (by omega) (by omega)
 rw[List.take_zero,List.flatten_nil,show((0:Nat):Int)=0 from rfl]at this
 rw[this]
 rfl
theorem gZ{α:Type}{k:Nat}{l:List α}(hk:0<k)(h:l.length * k≤140737488355328):app k ([]:List α) l=some l:=by
 rw[bL (by simpa using h) hk,List.nil_append]
structure Sz(m:aJ):Prop where
 Ey:m.ay.length≤1000000
 ask:m.aB.length≤1000000
 chs:m.aj.length≤1000000
 out:m.Out.length≤1000000000
 cout:∀c∈m.aj,c.Out.length≤1000∧c.In.length≤1000000
 crow:∀c∈m.aj,∀s∈c.Out,s.length≤1000000
 pay:∀f∈m.Out,f.Payload.length≤1000000
 buf:m.aA.Buffer.length≤1000000000
theorem GV(F:Nat)(l:List dX)(h:l.length≤1000000):W9 F l=some l:=by
 unfold W9
 rw[gZ (by omega) (by omega)]; rfl
theorem OU(F:Nat)(l:List aO)(h:l.length≤1000000):q54 F l=some l:=by
 unfold q54
 rw[gZ (by omega) (by omega)]; rfl
theorem OW(F:Nat)(l:List aS)(h:l.length≤1000000):q55 F l=some l:=by
 unfold q55
 rw[gZ (by omega) (by omega)]; rfl
theorem OV(F:Nat)(l:List eU)(h:l.length≤1000000000):q56 F l=some l:=by
 unfold q56
 rw[gZ (by omega) (by omega)]; rfl
theorem LV(F:Nat)(l:List (List Int))(hF:1000000000<F)(hl:l.length≤1000)(hs:∀s∈l,s.length≤1000000):q4i F l=some l:=by
 unfold q4i q96
 have:=dF (body:=fun s:List (List Int)×Int=>Qb F l s.1 s.2) (fun i=>(l.take i,(i:Int))) l.length l (fun i hi=>by
  have hx:l[i]? = some l[i]:=gE hi
  have hm:=hs _ (gM hi)
  show Qb F l _ _=_
  unfold Qb
  rw[if_pos (by simp[len]; omega)]
  simp only[dN,hx,bs]
  rw[join_one F _ (by omega) (by omega),bs,bL (by simp; omega) (by omega)]
  simp only[bs,ji hx,wN i (by omega)]) (by
  show Qb F l _ _=_
  unfold Qb
  rw[if_neg (by simp[len])]
  simp) F 0 (by omega) (by omega)
 rw[List.take_zero,show((0:Nat):Int)=0 from rfl]at this
 rw[this]
 rfl
theorem rE(F:Nat)(m:aJ)(hF:10000000000<F)(h:Sz m):qh F m=some ⟨m,[]⟩:=by
 unfold qh
 rw[GV F _ h.Ey,OU F _ h.ask,OW F _ h.chs,OV F _ h.out]
 simp only[bs]
 unfold q99
 have h1:=dF (body:=fun s:List aS×Int=>P9 F m s.1 s.2) (fun i=>(m.aj,(i:Int))) m.aj.length m.aj (fun i hi=>by
  have hx:m.aj[i]? = some m.aj[i]:=gE hi
  have hm:=h.cout _ (gM hi)
  have hlen:=h.chs
  show P9 F m _ _=_
  unfold P9
  rw[if_pos (by simp[len]; omega)]
  simp only[aP hx,bs]
  rw[LV F _ (by omega) hm.1 (h.crow _ (gM hi)),bs,join_one F _ (by omega) (by omega),bs]
  rw[upd_same hx]
  simp only[bs,aP hx]
  rw[upd_same hx]
  simp only[bs,wN i (by omega)]) (by
  show P9 F m _ _=_
  unfold P9
  rw[if_neg (by simp[len])]) F 0 (by omega) (by have:=h.chs; omega)
 rw[show((0:Nat):Int)=0 from rfl]at h1
 rw[h1,bs]
 unfold q98
 have h2:=dF (body:=fun s:List eU×Int=>Qa F m s.1 s.2) (fun i=>(m.Out,(i:Int))) m.Out.length m.Out (fun i hi=>by
  have hx:m.Out[i]? = some m.Out[i]:=gE hi
  have hm:=h.pay _ (gM hi)
  have hlen:=h.out
  show Qa F m _ _=_
  unfold Qa
  rw[if_pos (by simp[len]; omega)]
  simp only[aP hx,bs]
  rw[join_one F _ (by omega) (by omega),bs]
  rw[upd_same hx]
  simp only[bs,wN i (by omega)]) (by
  show Qa F m _ _=_
  unfold Qa
  rw[if_neg (by simp[len])]) F 0 (by omega) (by have:=h.out; omega)
 rw[show((0:Nat):Int)=0 from rfl]at h2
 rw[h2,bs]
 unfold q97
 have:=h.buf
 rw[join_one F _ (by omega) (by omega)]
 rfl
theorem lI{body:Int→Option (Out Int (Sum Unit Bool))}{n F:Nat}(h:∀i:Nat,i<n→body (i:Int)=some (.next ((i+1:Nat):Int)))(he:body (n:Int)=some (.done (.inl ())))(hF:n<F):iter body F 0=some (.inl ()):=by
 have:=dF (body:=body) (fun i=>(i:Int)) n (.inl ()) h he F 0 (by omega) (by omega)
 rwa [show((0:Nat):Int)=0 from rfl]at this
theorem sO(F:Nat)(l:List eU)(hF:l.length<F)(hl:l.length<10000000000):Z4 F l l=some true:=by
 unfold Z4
 have k:=lI (body:=fun s=>PG F l l s) (n:=l.length) (fun i hi=>by
  show PG F l l _=_
  unfold PG
  rw[if_pos (by simp[len]; omega)]
  simp only[dN,gE hi,bs,jV]
  rw[if_neg (by simp)]
  simp only[Zb,wN i (by omega)]
  simp) (by
  show PG F l l _=_
  unfold PG
  rw[if_neg (by simp[len])]) hF
 rw[if_neg (by simp),k]
 rfl
theorem Fj(F:Nat)(l:List (List Int))(hF:l.length<F)(hl:l.length<1000000000):Z7 F l l=some true:=by
 unfold Z7 qaj
 have k:=lI (body:=fun s=>PI F l l s) (n:=l.length) (fun i hi=>by
  show PI F l l _=_
  unfold PI qak
  rw[if_pos (by simp[len]; omega)]
  simp only[dN,gE hi,bs,jV,wN i (by omega)]
  simp) (by
  show PI F l l _=_
  unfold PI
  rw[if_neg (by simp[len])]) hF
 rw[if_neg (by simp),k]
 rfl
theorem Jf(F:Nat)(c:aS)(hF:1000000000<F)(hl:c.Out.length≤1000):Z6 F c c=some true:=by
 unfold Z6
 rw[if_neg (by simp),if_neg (by simp),Fj F _ (by omega) (by omega)]
 simp[jV]
theorem Mc(F:Nat)(a:gV):Z5 F a a=some true:=by
 unfold Z5
 simp[jV]
theorem CS(F:Nat)(m:aJ)(hF:10000000000<F)(h:Sz m):Wz F m m=some true:=by
 have hl:=h.Ey
 have hc:=h.chs
 have ha:=h.ask
 have ho:=h.out
 have k3:=lI (body:=fun s=>q3z F m m s) (n:=m.ay.length) (F:=F) (fun i hi=>by
  show q3z F m m _=_
  unfold q3z qaq
  rw[if_pos (by simp[len]; omega)]
  simp only[dN,gE hi,bs,wN i (by omega)]
  simp) (by
  show q3z F m m _=_
  unfold q3z
  rw[if_neg (by simp[len])]) (by omega)
 have k2:=lI (body:=fun s=>PD F m m s) (n:=m.aj.length) (F:=F) (fun i hi=>by
  show PD F m m _=_
  unfold PD qao
  rw[if_pos (by simp[len]; omega)]
  simp only[dN,gE hi,bs,wN i (by omega),Jf F _ (by omega) (h.cout _ (gM hi)).1]
  simp) (by
  show PD F m m _=_
  unfold PD
  rw[if_neg (by simp[len])]) (by omega)
 have k1:=lI (body:=fun s=>PE F m m s) (n:=m.aB.length) (F:=F) (fun i hi=>by
  show PE F m m _=_
  unfold PE qam
  rw[if_pos (by simp[len]; omega)]
  simp only[dN,gE hi,bs,wN i (by omega)]
  simp) (by
  show PE F m m _=_
  unfold PE
  rw[if_neg (by simp[len])]) (by omega)
 unfold Wz
 rw[if_neg (by simp),k3]
 simp only[bs]
 unfold qap
 rw[k2]
 simp only[bs]
 unfold qan
 rw[k1]
 simp only[bs]
 unfold qal
 rw[Mc,sO F _ (by omega) (by omega)]
 rfl
end V
end Go.Proofs.YtbgfhaahhdnogaaGreat

namespace Go.Proofs.YtbgfhaahhdnogaaGreat
namespace V
def zm:aJ:=⟨0,0,[],[],[],0,⟨false,[]⟩,[],0,0⟩
def iy(n:Int):Bool:=decide (n≥23)&&decide (n≤4096)
def countB(n:Int):Bool:=decide (n≥0)&&decide (n≤65535)
def pq(l:List dX)(x:dX):Int:=
 if x.bg=0 then 1
 else if l.any (fun o=>o.bg == x.bg)=true then 7
 else if (iy x.bA&&iy x.bC&&countB x.au&&(decide (x.Level≥0)&&decide (x.Level≤2)))=false then 5
 else 0
def xD(l:List dX):Nat→Nat→Int
 | _,0=>0
 | k,n+1=>match l[k]? with
   | none=>0
   | some x=>if pq (l.take k) x=0 then xD l (k+1) n else pq (l.take k) x
def tF(role:Int)(l:List dX):aJ×Int:=
 if role≠0∧role≠1 then(zm,1)
 else if l.length > 64 then(zm,4)
 else if xD l 0 l.length=0 then(⟨role,0,l,[],[],1,⟨false,[]⟩,[],0,27⟩,0)else(zm,xD l 0 l.length)
theorem TS(F:Nat)(l:List dX)(c:dX)(hF:l.length<F)(hl:l.length<1000000000):q52 F l c=some (fidx (fun o=>o.bg == c.bg) l,c):=by
 unfold q52 fidx
 have k:=jq (body:=fun s:dX×Int=>Qd F l s.1 s.2) (l:=l) (p:=fun o=>o.bg == c.bg) (c:=c) (g:=fun i=>(i,c)) (fun i x hx=>by
  have hlt:=(gS.1 hx).1
  show Qd F l _ _=_
  unfold Qd q7g
  rw[if_pos (by simp[len]; omega),aP hx]
  simp only[bs,wN i (by omega)]
  split <;> rfl) (by
  show Qd F l _ _=_
  unfold Qd
  rw[if_neg (by simp[len])]) hF
 rw[k]
 cases l.findIdx? (fun o=>o.bg == c.bg) <;> rfl
theorem Ug(F:Nat)(l:List dX)(c:dX)(hF:l.length<F)(hl:l.length<1000000000):q53 F l c=some (l.any (fun o=>o.bg == c.bg),c):=by
 unfold q53
 rw[TS F l c hF hl,bs,kr]
theorem IE(F:Nat)(l:List dX)(i:Nat)(x:dX)(hx:l[i]? = some x)(hF:l.length<F)(hl:l.length<1000000000):Qc F l (i:Int)=some (if pq (l.take i) x=0 then .next ((i+1:Nat):Int)else .done (.inr (zm,pq (l.take i) x))):=by
 have hlt:=(gS.1 hx).1
 have hsub:sub l 0 (i:Int)=some (l.take i):=by
  have:=gB l 0 i (by omega) (by omega)
  rw[show((0:Nat):Int)=0 from rfl]at this
  rw[this]
  simp
 unfold Qc qz qo
 rw[if_pos (by simp[len]; omega),aP hx,bs,hsub,bs,Ug F _ _ (by rw[List.length_take]; omega) (by rw[List.length_take]; omega)]
 simp only[bs,wN i (by omega)]
 unfold pq
 by_cases h1:x.bg=0
 ·rw[if_pos (by simpa using h1),if_pos h1]; rfl
 rw[if_neg (by simpa using h1),if_neg h1]
 by_cases h2:(l.take i).any (fun o=>o.bg == x.bg)=true
 ·rw[if_pos h2,if_pos h2]; rfl
 rw[if_neg h2,if_neg h2]
 cases hb1:iy x.bA <;> cases hb2:iy x.bC <;> cases hb3:countB x.au <;> cases hb4:(decide (x.Level≥0)&&decide (x.Level≤2)) <;> (unfold iy at hb1 hb2; unfold countB at hb3; simp[hb1,hb2,hb3,hb4,zm])
theorem zK{l:List dX}{k n:Nat}{x:dX}(h:l[k]? = some x):xD l k (n+1)=if pq (l.take k) x=0 then xD l (k+1) n else pq (l.take k) x:=by simp only[xD,h]
theorem w9(F:Nat)(l:List dX)(hF:l.length<F)(hl:l.length<1000000000)(body:Int→Option (Out Int (Sum Unit (aJ×Int))))(hb:∀(i:Nat) x,l[i]? = some x→body (i:Int)=some (if pq (l.take i) x=0 then .next ((i+1:Nat):Int)else .done (.inr (zm,pq (l.take i) x))))(he:body (l.length:Int)=some (.done (.inl ()))) :
 ∀(n k f:Nat),k+n=l.length→n<f→iter body f (k:Int)=some (if xD l k n=0 then .inl ()else .inr (zm,xD l k n))
 | 0,k,f,hk,hf=>by
   have:k=l.length:=by omega
   subst this
   cases f with
   | zero=>omega
   | succ f=>rw[bE he]; rfl
 | n+1,k,f,hk,hf=>by
   have hx:l[k]? = some l[k]:=gE (by omega)
   have h1:=hb k _ hx
   cases f with
   | zero=>omega
   | succ f=>
     rw[zK hx]
     by_cases h2:pq (l.take k) l[k]=0
     ·rw[if_pos h2]at h1
      rw[bH h1,if_pos h2]
      exact w9 F l hF hl body hb he n (k+1) f (by omega) (by omega)
     ·rw[if_neg h2]at h1
      rw[bE h1,if_neg h2,if_neg h2]
theorem SG(F:Nat)(role:Int)(l:List dX)(hF:1000<F):U4 F role l=some (tF role l):=by
 unfold U4 tF
 by_cases h1:role≠0∧role≠1
 ·rw[if_pos (by simpa using h1),if_pos h1]; rfl
 rw[if_neg (by simpa using h1),if_neg h1]
 by_cases h2:l.length > 64
 ·rw[if_pos (by simp[len]; omega),if_pos h2]; rfl
 rw[if_neg (by simp[len]; omega),if_neg h2]
 have k:=w9 F l (by omega) (by omega) (fun s=>Qc F l s) (fun i x hx=>IE F l i x hx (by omega) (by omega)) (by
  show Qc F l _=_
  unfold Qc
  rw[if_neg (by simp[len])]) l.length 0 F (by omega) (by omega)
 rw[show((0:Nat):Int)=0 from rfl]at k
 rw[k]
 by_cases h3:xD l 0 l.length=0
 ·rw[if_pos h3,if_pos h3]
  simp only[bs]
  unfold q94
  rw[GV F _ (by omega)]
  rfl
 ·rw[if_neg h3,if_neg h3]; rfl
theorem IU{body:Int→Option (Out Int (Sum Unit (aJ×Int)))}{l:List dX}{p:dX→Bool}{e:aJ×Int}{n F:Nat}(h:∀(i:Nat) x,i<n→l[i]? = some x→body (i:Int)=some (if p x=true then .done (.inr e)else .next ((i+1:Nat):Int)))(he:body (n:Int)=some (.done (.inl ())))(hn:n≤l.length)(hF:n<F):iter body F 0=some (if (l.take n).any p=true then .inr e else .inl ()):=by
 have hlen:(l.take n).length=n:=by rw[List.length_take]; omega
 have:=xM (body:=body) (l:=l.take n) (p:=p) (o:=.inr e) (e:=.inl ()) (fun i x hx=>by
  have hlt:=(gS.1 hx).1
  rw[hlen]at hlt
  rw[List.getElem?_take,if_pos hlt]at hx
  exact h i x hlt hx) (by rw[hlen]; exact he) F 0 (by omega) (by omega)
 simpa using this
theorem EW(F:Nat)(l:List dX)(i:Nat)(x:dX)(hx:l[i]? = some x)(hF:l.length<F)(hl:l.length<1000000000):PK F l (i:Int)=some (if pq (l.take i) x=0 then .next ((i+1:Nat):Int)else .done (.inr (zm,pq (l.take i) x))):=by
 have hlt:=(gS.1 hx).1
 unfold PK
 rw[if_pos (by simp[len]; omega),aP hx,bs]
 unfold pq
 by_cases h1:x.bg=0
 ·rw[if_pos (by simpa using h1),if_pos h1]; rfl
 rw[if_neg (by simpa using h1),if_neg h1]
 have k:=IU (body:=fun s=>PL F l (i:Int) x s) (l:=l) (p:=fun o=>o.bg == x.bg) (e:=(zm,7)) (n:=i) (F:=F) (fun j y hj hy=>by
  show PL F l _ x _=_
  unfold PL qai
  rw[if_pos (by simp; omega),aP hy]
  simp only[bs,wN j (by omega)]
  split <;> rfl) (by
  show PL F l _ x _=_
  unfold PL
  rw[if_neg (by simp)]) (by omega) (by omega)
 rw[k]
 by_cases h2:(l.take i).any (fun o=>o.bg == x.bg)=true
 ·rw[if_pos h2,if_pos h2]; rfl
 rw[if_neg h2,if_neg h2]
 simp only[bs]
 unfold qah qag Qf WB
 simp only[bs,wN i (by omega)]
 have hv:(decide (x.Level≥0)&&decide (x.Level≤2)) = !(decide (x.Level<0)||decide (x.Level > 2)):=by
  by_cases h3:x.Level<0 <;> by_cases h4:x.Level > 2 <;> simp[h3,h4] <;> omega
 cases hb1:iy x.bA <;> cases hb2:iy x.bC <;> cases hb3:countB x.au <;> cases hb4:decide (x.Level<0) <;> cases hb5:decide (x.Level > 2) <;> (unfold iy at hb1 hb2; unfold countB at hb3; rw[hv,hb4,hb5]; simp[hb1,hb2,hb3,zm])
theorem Nw(F:Nat)(role:Int)(l:List dX)(hF:1000<F):Z8 F role l=some (tF role l):=by
 unfold Z8 tF
 by_cases h1:role≠0∧role≠1
 ·rw[if_pos (by simpa using h1),if_pos h1]; rfl
 rw[if_neg (by simpa using h1),if_neg h1]
 by_cases h2:l.length > 64
 ·rw[if_pos (by simp[len]; omega),if_pos h2]; rfl
 rw[if_neg (by simp[len]; omega),if_neg h2]
 have k:=w9 F l (by omega) (by omega) (fun s=>PK F l s) (fun i x hx=>EW F l i x hx (by omega) (by omega)) (by
  show PK F l _=_
  unfold PK
  rw[if_neg (by simp[len])]) l.length 0 F (by omega) (by omega)
 rw[show((0:Nat):Int)=0 from rfl]at k
 rw[k]
 by_cases h3:xD l 0 l.length=0
 ·rw[if_pos h3,if_pos h3]
  simp only[bs]
  unfold qaf
  rw[gZ (by omega) (by omega)]
  rfl
 ·rw[if_neg h3,if_neg h3]; rfl
theorem SF(role:Int)(l:List dX):Sz (tF role l).1:=by
 unfold tF
 split
 ·exact⟨by simp[zm],by simp[zm],by simp[zm],by simp[zm],by simp[zm],by simp[zm],by simp[zm],by simp[zm]⟩
 split
 ·exact⟨by simp[zm],by simp[zm],by simp[zm],by simp[zm],by simp[zm],by simp[zm],by simp[zm],by simp[zm]⟩
 split
 ·exact⟨by simp; omega,by simp,by simp,by simp,by simp,by simp,by simp,by simp⟩
 ·exact⟨by simp[zm],by simp[zm],by simp[zm],by simp[zm],by simp[zm],by simp[zm],by simp[zm],by simp[zm]⟩
def lvl(n:Int):Int:=if n<0 then 0 else if n > 2 then 2 else n
theorem Hy(F:Nat)(m:aJ)(n:Int)(hF:10000000000<F)(h:Sz m):Zo F m n=some { m with Level:=lvl n }:=by
 unfold Zo
 rw[rE F m hF h]
 have:imax 0 (bD n 2)=lvl n:=by unfold imax bD lvl; split <;> split <;> (try split) <;> omega
 simp[this]
theorem ET(F:Nat)(m:aJ)(n:Int):Zn F m n=some { m with Level:=lvl n }:=by
 unfold Zn
 have:bD (imax n 0) 2=lvl n:=by unfold imax bD lvl; split <;> split <;> (try split) <;> omega
 rw[this]
theorem rU:U5 FF=some true:=by kernel_rfl
end V
end Go.Proofs.YtbgfhaahhdnogaaGreat

namespace Go.Proofs.YtbgfhaahhdnogaaGreat
namespace V
namespace Sd
theorem Dc{α:Type}(c:Prop) [Decidable c](a b:α):(if c then some a else some b)=some (if c then a else b):=by split <;> rfl
def lastOf(c:aS):Int:=match c.Out with | []=>0 | s::_=>1+s.length
structure Sm(c:aS):Prop where
 out:c.Out.length≤1000
 each:∀s∈c.Out,s.length≤1000000
 inn:c.In.length≤1000000
theorem LH{α:Type}(l m:List α)(h:l.length=m.length):zT l m=m:=by
 unfold zT
 rw[h,List.take_length,← h,List.drop_length,List.append_nil]
theorem jr(F:Nat)(c:aS)(hF:2000<F)(h:Sm c):qu F c=some c:=by
 obtain⟨h1,h2,h3⟩:=h
 unfold qu q9j
 have:=dF (body:=fun s:List (List Int)×Int=>PX F c s.1 s.2) (fun i=>(c.Out.take i,(i:Int))) c.Out.length c.Out (fun i hi=>by
  have hx:c.Out[i]? = some c.Out[i]:=gE hi
  have hm:=h2 _ (gM hi)
  show PX F c _ _=_
  unfold PX
  rw[if_pos (by simp[len]; omega)]
  simp only[dN,hx,bs,lN]
  rw[xu (by omega) (by omega)]
  simp only[bs]
  rw[LH _ _ (by simp),bL (by simp; omega) (by omega)]
  simp only[bs,ji hx,wN i (by omega)]) (by
  show PX F c _ _=_
  unfold PX
  rw[if_neg (by simp[len])]
  simp) F 0 (by omega) (by omega)
 rw[List.take_zero,show((0:Nat):Int)=0 from rfl]at this
 rw[this]
 simp only[bs]
 rw[vK F [c.In] (by simp; omega) (by simp) (by simp; omega)]
 simp
theorem dz{x:Int}(h1 : -1000000000000000000≤x)(h2:x≤1000000000000000000):aH x=x:=bJ (by omega) (by omega)
structure Ok(c:aS):Prop where
 ids:¬ (c.Local<64∨c.Local > 127∨c.Remote<64∨c.Remote > 127)
 psm:c.bg≠0
 xk:23≤c.bA∧c.bA≤4096
 mps:23≤c.bC∧c.bC≤4096
 Sv:23≤c.gQ∧c.gQ≤4096
 Sw:23≤c.bf∧c.bf≤4096
 tx:0≤c.aG∧c.aG≤65535
 rx:0≤c.aC∧c.aC≤65535
 given:0≤c.Given∧c.Given≤65535
 few:c.Out.length≤64
 short:∀s∈c.Out,(s.length:Int)≤c.gQ
 sent:0≤c.aN∧c.aN≤lastOf c
 want : -1≤c.Want∧c.Want≤c.bA
 inn:(c.Want = -1→c.In.length=0)∧(c.Want≥0→(c.In.length:Int)<c.Want)
def fm(s:List Int):List Int:=[(s.length:Int) % 256,(s.length:Int) / 256]++s
theorem Cr(F:Nat)(s:List Int)(hF:5<F)(hs:s.length≤4096):q5e F s=some (fm s):=by
 unfold q5e fm
 have e1:wF (len s) 8=(s.length:Int) / 256:=by
  unfold wF
  rw[lN,show(2:Int) ^ 8=256 by decide,Int.fdiv_eq_ediv_of_nonneg _ (by omega)]
 have e2:gX (len s)=(s.length:Int) % 256:=rfl
 have e3:gX ((s.length:Int) / 256)=(s.length:Int) / 256:=EI (by omega) (by omega)
 rw[e1,e2,e3,vK F _ (by simp; omega) (by simp) (by simp; omega)]
 simp
theorem gU(s:List Int):(fm s).length=s.length+2:=by simp[fm]
def partOf(c:aS)(s:List Int):List Int:=((fm s).drop c.aN.toNat).take c.bf.toNat
def KO(c:aS)(s:List Int)(r:List (List Int)):aS:=
 if c.aN+c.bf≥s.length+2 then { c with aG:=c.aG - 1,Out:=r,aN:=0 }else { c with aG:=c.aG - 1,aN:=c.aN+c.bf }
theorem JY(F:Nat)(c:aS)(l:List (List Int))(s:List Int)(r:List (List Int))(hF:5<F)(hl:l.length≤1000000)(h:Ok c)(ho:c.Out=s::r)(ht:c.aG > 0) :
 q5f F c l=some (KO c s r,l++[partOf c s]):=by
 have hsl:=h.short s (by rw[ho]; simp)
 have hp:=h.Sv
 have hm:=h.Sw
 have hse:=h.sent
 have htx:=h.tx
 rw[show lastOf c=1+s.length by unfold lastOf; rw[ho]]at hse
 unfold q5f
 have hL:len (fm s)=s.length+2:=by rw[lN,gU]; omega
 have e1:imax 0 (bD c.aN (len (fm s)))=c.aN:=by unfold imax bD; rw[hL]; split <;> split <;> omega
 have e2:aH (len (fm s) - c.aN)=s.length+2 - c.aN:=by rw[hL,dz (by omega) (by omega)]
 have e3:imax 1 (bD c.bf (s.length+2 - c.aN))=min c.bf (s.length+2 - c.aN):=by unfold imax bD; split <;> split <;> omega
 have e4:bD (min c.bf (s.length+2 - c.aN)) (s.length+2 - c.aN)=((min c.bf (s.length+2 - c.aN)).toNat:Int):=by unfold bD; split <;> omega
 have e5:aH (c.aN+min c.bf (s.length+2 - c.aN))=c.aN+min c.bf (s.length+2 - c.aN):=dz (by omega) (by omega)
 have e6:aH (c.aG - 1)=c.aG - 1:=dz (by omega) (by omega)
 have e7:sub (fm s) c.aN (len (fm s))=some ((fm s).drop c.aN.toNat):=by
  have:=gB (fm s) c.aN.toNat (fm s).length (by rw[gU]; omega) (by omega)
  rw[List.take_length,show((c.aN.toNat:Nat):Int)=c.aN by omega]at this
  exact this
 have e8:zT (List.replicate (min c.bf (s.length+2 - c.aN)).toNat 0) ((fm s).drop c.aN.toNat)=partOf c s:=by
  unfold zT partOf
  have hd:(List.replicate (min c.bf (s.length+2 - c.aN)).toNat (0:Int)).drop ((fm s).drop c.aN.toNat).length=[]:=List.drop_of_length_le (by rw[List.length_replicate,List.length_drop,gU]; omega)
  rw[hd,List.length_replicate,List.append_nil]
  by_cases hc:c.bf≤s.length+2 - c.aN
  ·rw[show(min c.bf (s.length+2 - c.aN)).toNat=c.bf.toNat by omega]
  ·rw[List.take_of_length_le (by rw[List.length_drop,gU]; omega),List.take_of_length_le (by rw[List.length_drop,gU]; omega)]
 rw[show idx c.Out 0=some s by rw[ho]; rfl,bs,Cr F s hF (by omega),bs]
 simp only[e1,e2,e3]
 rw[e4,xu (by omega) (by omega),bs,e7,bs,e8,bL (by simp; omega) (by omega),bs,e5,e6,hL]
 unfold KO
 by_cases hc:c.aN+c.bf≥s.length+2
 ·have hsub:sub c.Out 1 (len c.Out)=some r:=by
   have:=gB c.Out 1 c.Out.length (by rw[ho]; simp) (by omega)
   rw[List.take_length,ho]at this
   rw[ho]
   exact this
  rw[if_pos (by simp; omega),hsub,bs,if_pos hc]
 ·rw[if_neg (by simp; omega),if_neg hc,show c.aN+min c.bf (s.length+2 - c.aN)=c.aN+c.bf by omega]
theorem SE{c:aS}{s:List Int}{r:List (List Int)}(h:Ok c)(hs:Sm c)(ho:c.Out=s::r)(ht:c.aG > 0):Ok (KO c s r)∧Sm (KO c s r)∧(KO c s r).aG=c.aG - 1:=by
 obtain⟨a1,a2,b1,b2,b3,b4,b5,b6,b7,a4,a5,c1,c2,c3⟩:=h
 obtain⟨s1,s2,s3⟩:=hs
 rw[show lastOf c=1+s.length by unfold lastOf; rw[ho]]at c1
 rw[ho]at a4 a5 s1 s2
 simp only[List.length_cons]at a4 s1
 unfold KO
 by_cases hc:c.aN+c.bf≥s.length+2
 ·rw[if_pos hc]
  refine⟨⟨a1,a2,b1,b2,b3,b4,by simp only; omega,b6,b7,by simp only; omega,fun x hx=>a5 x (List.mem_cons_of_mem _ hx),?_,c2,c3⟩,⟨by simp only; omega,fun x hx=>s2 x (List.mem_cons_of_mem _ hx),s3⟩,rfl⟩
  unfold lastOf
  simp only
  cases r with
  | nil=>simp
  | cons y r=>simp only; omega
 ·rw[if_neg hc]
  refine⟨⟨a1,a2,b1,b2,b3,b4,by simp only; omega,b6,b7,by simp only[ho,List.length_cons]; omega,by simp only[ho]; exact a5,?_,c2,c3⟩,⟨by simp only[ho,List.length_cons]; omega,by simp only[ho]; exact s2,s3⟩,rfl⟩
  unfold lastOf
  simp only[ho]
  omega
theorem LY(a b:Int)(ha:Byte a)(hb:Byte b):qF .i64 a (b * 256)=a+256 * b:=by
 obtain⟨a,rfl⟩:=Int.eq_ofNat_of_zero_le ha.1
 obtain⟨b,rfl⟩:=Int.eq_ofNat_of_zero_le hb.1
 have h1:=ha.2
 have h2:=hb.2
 unfold qF
 rw[show((b:Int) * 256)=((b * 256:Nat):Int) by omega]
 rw[BitVec.ofInt_natCast,BitVec.ofInt_natCast,BitVec.toNat_or,BitVec.toNat_ofNat,BitVec.toNat_ofNat]
 rw[Nat.mod_eq_of_lt (show a<2 ^ IntKind.i64.bits by simp[IntKind.bits]; omega),Nat.mod_eq_of_lt (show b * 256<2 ^ IntKind.i64.bits by simp[IntKind.bits]; omega)]
 rw[Nat.or_comm,show b * 256=b <<< 8 by rw[Nat.shiftLeft_eq],← Nat.shiftLeft_add_eq_or_of_lt (by omega),wrap_i64,Nat.shiftLeft_eq,dz (by omega) (by omega)]
 omega
theorem shl8{y:Int}(hy:Byte y):jR .i64 (aH y) 8=y * 256:=by
 unfold Byte at hy
 unfold jR
 rw[wrap_i64,dz (x:=y) (by omega) (by omega),show(2:Int) ^ 8=256 by decide,dz (by omega) (by omega)]
def grown(c:aS)(part:List Int)(want:Int):aS×List (List Int)×Int:=
 if len (c.In++part)<want then({ c with aC:=aH (c.aC - 1),In:=c.In++part,Want:=want },[],0)
 else({ c with aC:=aH (c.aC - 1),In:=[],Want:=(-1) },[c.In++part],0)
theorem Dr{c:aS}{part:List Int}{want:Int}(hs:Sm c)(h:Ok c)(hr:c.aC≠0)(h0:0≤want)(h1:want≤c.bA):Ok (grown c part want).1∧Sm (grown c part want).1∧(grown c part want).2.1.length≤1:=by
 obtain⟨a1,a2,b1,b2,b3,b4,b5,b6,b7,a4,a5,c1,c2,c3⟩:=h
 have e:aH (c.aC - 1)=c.aC - 1:=dz (by omega) (by omega)
 unfold grown
 rw[e]
 by_cases hl:len (c.In++part)<want
 ·rw[if_pos hl]
  have hl':((c.In++part).length:Int)<want:=hl
  refine⟨⟨a1,a2,b1,b2,b3,b4,b5,?_,b7,a4,a5,c1,?_,?_⟩,⟨hs.out,hs.each,?_⟩,by simp⟩
  ·show 0≤c.aC - 1∧c.aC - 1≤65535; omega
  ·show -1≤want∧want≤c.bA; omega
  ·refine⟨fun(hw:want = -1)=>by omega,fun _=>hl'⟩
  ·show(c.In++part).length≤1000000; omega
 ·rw[if_neg hl]
  refine⟨⟨a1,a2,b1,b2,b3,b4,b5,?_,b7,a4,a5,c1,?_,?_⟩,⟨hs.out,hs.each,by simp⟩,by simp⟩
  ·show 0≤c.aC - 1∧c.aC - 1≤65535; omega
  ·show -1≤(-1:Int)∧(-1:Int)≤c.bA; omega
  ·exact⟨fun _=>rfl,fun(hw:(-1:Int)≥0)=>by omega⟩
theorem Hz(F:Nat)(c:aS)(part:List Int)(want:Int)(hF:5000<F)(hs:Sm c)(hp:part.length≤1000000):((qa F [c.In,part]).bind fun ou=>
 if (decide ((len ou)<want))=true then
  some ({ c with aC:=aH (c.aC - 1),In:=ou,Want:=want },[],0)
 else
  some ({ c with aC:=aH (c.aC - 1),In:=[],Want:=(-1) },[ou],0))=some (grown c part want):=by
 have:=hs.inn
 rw[vK F _ (by simp; omega) (by simp) (by simp; omega)]
 simp only[bs,decide_eq_true_eq,List.flatten_cons,List.flatten_nil,List.append_nil]
 exact Dc _ _ _
def tkn(c:aS)(b:List Int):List Int×Int×Int:=
 if c.aC=0 then([],0,19)else if len b > c.bC then([],0,4)
 else if c.Want = -1 then(match b with
  | x::y::r=>if x+256 * y > c.bA∨(r.length:Int) > x+256 * y then([],0,4)else(r,x+256 * y,0)
  | _=>([],0,3))
 else if len b=0 then([],0,3)else if len c.In+len b > c.Want then([],0,4)else(b,c.Want,0)
theorem Gb(x y:Int)(r:List Int):sub (x::y::r) 2 (len (x::y::r))=some r:=by
 have:=gB (x::y::r) 2 (x::y::r).length (by simp) (by simp)
 rw[List.take_length]at this
 exact this
theorem F6(x y:Int)(r:List Int)(h:r.length≤65536):aH (len (x::y::r) - 2)=r.length:=by
 rw[lN,List.length_cons,List.length_cons,dz (by omega) (by omega)]
 omega
theorem mX(F:Nat)(c:aS)(b:List Int)(hs:Sm c)(hb:b.length≤65536)(hB:∀x∈b,Byte x)(h:Ok c):q61 F c b=some (tkn c b):=by
 unfold q61 tkn
 have hrx:=h.rx
 have hlb:=lN b
 have hli:=lN c.In
 have hin:=hs.inn
 by_cases h2:c.aC=0
 ·rw[if_pos (by simp[h2]),if_pos h2]
 rw[if_neg (by simp; omega),if_neg h2]
 by_cases h3:len b > c.bC
 ·rw[if_pos (by simpa using h3),if_pos h3]
 rw[if_neg (by simpa using h3),if_neg h3]
 by_cases h4:c.Want = -1
 ·rw[if_neg (by simpa using h4),if_pos h4]
  match b,hB,hb with
  | [],_,_=>rfl
  | [x],_,_=>rfl
  | x::y::r,hB,hb=>
    have hx:=hB x (by simp)
    have hy:=hB y (by simp)
    have hr:r.length≤65536:=by simp at hb; omega
    rw[if_neg (c:=decide (len (x::y::r)<2)=true) (by rw[decide_eq_true_eq,lN,List.length_cons,List.length_cons]; omega),show idx (x::y::r) 0=some x from rfl,show idx (x::y::r) 1=some y from rfl,bs,bs,shl8 hy]
    have hx':aH x=x:=dz (by have:=hx.1; omega) (by have:=hx.2; omega)
    rw[hx',LY x y hx hy]
    unfold qa6
    rw[F6 x y r hr,Gb,bs]
    by_cases h6:x+256 * y > c.bA∨(r.length:Int) > x+256 * y
    ·rw[if_pos (by simp; omega)]; simp only[if_pos h6]
    ·rw[if_neg (by simp; omega)]; simp only[if_neg h6]
 ·rw[if_pos (by simpa using h4),if_neg h4]
  by_cases h5:len b=0
  ·rw[if_pos (by simpa using h5),if_pos h5]
  rw[if_neg (by simpa using h5),if_neg h5,dz (x:=len c.In+len b) (by omega) (by omega)]
  by_cases h6:len c.In+len b > c.Want
  ·rw[if_pos (by simpa using h6),if_pos h6]
  ·rw[if_neg (by simpa using h6),if_neg h6]; rfl
theorem Gs(F:Nat)(b:List Int)(x y:Int)(r:List Int)(hF:5<F)(hb:b=x::y::r)(hx:Byte x)(hy:Byte y):q9 F b 0 2=some (x+256 * y):=by
 obtain⟨F,rfl⟩:∃G,F=G+3:=⟨F - 3,by omega⟩
 unfold Byte at hx hy
 subst hb
 unfold q9 qb1
 generalize hG:F+3=G
 have e1:iter (fun s:Int×Int=>qy G (x::y::r) 0 s.1 s.2) (F+3) (0,1)=some (x+256 * y):=by
  rw[bH (s':=(y,0)) (by
   show qy G _ 0 0 1=_
   unfold qy
   rw[if_pos (by decide)]
   show(some y).bind _=_
   simp only[bs]
   congr 2
   simp only[Prod.mk.injEq]
   refine⟨?_,by decide⟩
   rw[eX (x:=y) (by omega) (by omega),eX (x:=0 * 256) (by omega) (by omega),eX (by omega) (by omega)]
   omega)]
  rw[bH (s':=(x+256 * y,-1)) (by
   show qy G _ 0 y 0=_
   unfold qy
   rw[if_pos (by decide)]
   show(some x).bind _=_
   simp only[bs]
   congr 2
   simp only[Prod.mk.injEq]
   refine⟨?_,by decide⟩
   rw[eX (x:=x) (by omega) (by omega),eX (x:=y * 256) (by omega) (by omega),eX (by omega) (by omega)]
   omega)]
  exact bE (by
   show qy G _ 0 _ (-1)=_
   unfold qy
   rw[if_neg (by decide)])
 rw[show aH (2 - 1)=1 by decide,← hG,← hG]at *
 rw[e1]
 rfl
theorem zn(F:Nat)(c:aS)(part:List Int)(want:Int)(hs:Sm c)(hp:part.length≤1000000):VR F c part want=some (grown c part want):=by
 unfold VR grown
 have:=hs.inn
 rw[bL (l:=([]:List Int)) (by simp; omega) (by omega)]
 simp only[bs,List.nil_append]
 rw[bL (by omega) (by omega)]
 simp only[bs,decide_eq_true_eq]
 exact Dc _ _ _
theorem Ll(F:Nat)(c:aS)(b:List Int)(hF:5<F)(hs:Sm c)(hb:b.length≤65536)(hB:∀x∈b,Byte x):Zv F c b=some (tkn c b).2.2:=by
 unfold Zv tkn
 have hlb:=lN b
 have hli:=lN c.In
 have hin:=hs.inn
 by_cases h2:c.aC=0
 ·rw[if_pos (by simp[h2]),if_pos h2]
 rw[if_neg (by simpa using h2),if_neg h2]
 by_cases h3:len b > c.bC
 ·rw[if_pos (by simpa using h3),if_pos h3]
 rw[if_neg (by simpa using h3),if_neg h3]
 by_cases h4:c.Want = -1
 ·rw[if_pos (by simpa using h4),if_pos h4]
  match b,hB,hb with
  | [],_,_=>rfl
  | [x],_,_=>rfl
  | x::y::r,hB,hb=>
    have hx:=hB x (by simp)
    have hy:=hB y (by simp)
    have hr:r.length≤65536:=by simp at hb; omega
    rw[if_neg (c:=decide (len (x::y::r)<2)=true) (by rw[decide_eq_true_eq,lN,List.length_cons,List.length_cons]; omega),Gs F _ x y r hF rfl hx hy,bs,F6 x y r hr]
    unfold Byte at hx hy
    rw[dz (x:=x+256 * y) (by omega) (by omega)]
    by_cases h6:x+256 * y > c.bA∨(r.length:Int) > x+256 * y
    ·rw[if_pos (by simp; omega)]; simp only[if_pos h6]
    ·rw[if_neg (by simp; omega)]; simp only[if_neg h6]
 ·rw[if_neg (by simpa using h4),if_neg h4]
  by_cases h5:len b=0
  ·rw[if_pos (by simpa using h5),if_pos h5]
  rw[if_neg (by simpa using h5),if_neg h5,dz (x:=len c.In+len b) (by omega) (by omega)]
  by_cases h6:len c.In+len b > c.Want
  ·rw[if_pos (by simpa using h6),if_pos h6]
  ·rw[if_neg (by simpa using h6),if_neg h6]
theorem Ok.sm{c:aS}(h:Ok c):Sm c:=by
 have h1:=h.few
 have h2:=h.short
 have h3:=h.Sv
 have h4:=h.want
 have h5:=h.inn
 have h6:=h.xk
 refine⟨by omega,fun s hs=>by have:=h2 s hs; omega,?_⟩
 by_cases h7:c.Want = -1
 ·have:=h5.1 h7; omega
 ·have:=h5.2 (by omega); omega
theorem pI(F:Nat)(c:aS)(b:List Int)(hF:5000<F)(hs:Sm c)(hb:b.length≤65536)(hB:∀x∈b,Byte x)(h:Ok c):∃r,q62 F c b=some r∧Zu F c b=some r∧Ok r.1∧(r.1.Local=c.Local∧r.1.Remote=c.Remote)∧r.2.1.length≤1∧(r.2.2=0→r.1.Failed=false):=by
 unfold q62 Zu
 rw[jr F c (by omega) hs,bs,mX F c b hs hb hB h,Ll F c b (by omega) hs hb hB,bs,bs]
 have hf:Ok { c with Failed:=true }:=by
  obtain⟨a1,a2,b1,b2,b3,b4,b5,b6,b7,a4,a5,c1,c2,c3⟩:=h
  exact⟨a1,a2,b1,b2,b3,b4,b5,b6,b7,a4,a5,c1,c2,c3⟩
 have hsf:Sm { c with Failed:=true }:=⟨hs.out,hs.each,hs.inn⟩
 by_cases h1:c.Failed=true
 ·exact⟨_,by rw[if_pos h1],by rw[if_pos h1],h,⟨rfl,rfl⟩,by simp,fun e=>by cases e⟩
 rw[if_neg h1,if_neg h1]
 by_cases h0:(tkn c b).2.2=0
 ·rw[if_neg (by simpa using h0),if_neg (by simpa using h0)]
  have hrx:c.aC≠0:=fun e=>by simp[tkn,e]at h0
  have hwant:=h.want
  have key:(tkn c b).1.length≤1000000∧0≤(tkn c b).2.1∧(tkn c b).2.1≤c.bA∧((c.Want = -1∧∃x y r,b=x::y::r∧Byte x∧Byte y∧tkn c b=(r,x+256 * y,0))∨(c.Want≠-1∧tkn c b=(b,c.Want,0))):=by
   unfold tkn at h0 ⊢
   rw[if_neg hrx]at h0 ⊢
   by_cases h3:len b > c.bC
   ·simp[if_pos h3]at h0
   rw[if_neg h3]at h0 ⊢
   by_cases h4:c.Want = -1
   ·rw[if_pos h4]at h0 ⊢
    match b,hB,hb,h0 with
    | [],_,_,h0=>simp at h0
    | [x],_,_,h0=>simp at h0
    | x::y::r,hB,hb,h0=>
      have hx:=hB x (by simp)
      have hy:=hB y (by simp)
      by_cases h6:x+256 * y > c.bA∨(r.length:Int) > x+256 * y
      ·simp[if_pos h6]at h0
      ·simp only[if_neg h6]
       have hx':=hx
       have hy':=hy
       unfold Byte at hx' hy'
       refine⟨by simp at hb; omega,by omega,by omega,.inl ⟨h4,x,y,r,rfl,hx,hy,rfl⟩⟩
   ·rw[if_neg h4]at h0 ⊢
    by_cases h5:len b=0
    ·simp[if_pos h5]at h0
    rw[if_neg h5]at h0 ⊢
    by_cases h6:len c.In+len b > c.Want
    ·simp[if_pos h6]at h0
    rw[if_neg h6]
    exact⟨by simp only; omega,by simp only; omega,by simp only; omega,.inr ⟨h4,rfl⟩⟩
  obtain⟨k1,k2,k3,k4⟩:=key
  refine⟨grown c (tkn c b).1 (tkn c b).2.1,Hz F c _ _ hF hs k1,?_,(Dr hs h hrx k2 k3).1,⟨by unfold grown; split <;> rfl,by unfold grown; split <;> rfl⟩,(Dr hs h hrx k2 k3).2.2,fun _=>by unfold grown; split <;> simpa using h1⟩
  rcases k4 with⟨h4,x,y,r,rfl,hx,hy,e⟩ | ⟨h4,e⟩
  ·rw[if_pos (by simpa using h4),Gs F _ x y r (by omega) rfl hx hy,bs,Gb,bs,e]
   rw[e]at k1
   unfold Byte at hx hy
   rw[dz (x:=x+256 * y) (by omega) (by omega)]
   exact zn F c r _ hs k1
  ·rw[if_neg (by simpa using h4),e]
   rw[e]at k1
   exact zn F c b _ hs k1
 ·rw[if_pos (by simpa using h0),if_pos (by simpa using h0)]
  exact⟨_,rfl,rfl,hf,⟨rfl,rfl⟩,by simp,fun e=>absurd e h0⟩
theorem CK(F:Nat)(s:List Int)(hF:5<F)(hs:s.length≤4096):ZJ F s=some (fm s):=by
 unfold ZJ fm
 have e0:wu64 (len s)=s.length:=eX (by simp[len]) (by simp[len]; omega)
 have e1:=rz F (s.length:Int) 2 (by omega) (by omega) (by omega) (by omega)
 have e2:pz 2 (s.length:Int)=[(s.length:Int) % 256,(s.length:Int) / 256]:=by
  show [(s.length:Int) % 256,(s.length:Int) / 256 % 256]=_
  rw[show(s.length:Int) / 256 % 256=(s.length:Int) / 256 by omega]
 rw[e2]at e1
 rw[e0]
 have e3:qb F (s.length:Int) 2=some [(s.length:Int) % 256,(s.length:Int) / 256]:=e1
 rw[e3,bs,bL (by simp; omega) (by omega)]
 rfl
theorem Kc(F:Nat)(c:aS)(c0:aS)(l:List (List Int))(s:List Int)(r:List (List Int))(hF:5<F)(hl:l.length≤1000000)(h:Ok c)(hs:Sm c)(hf:c0.Failed=false)(e:c = { c0 with aG:=c.aG,Out:=c.Out,aN:=c.aN })(ho:c.Out=s::r)(ht:c.aG > 0) :
 Kt F c0 c l=some (.next (KO c s r,l++[partOf c s])):=by
 have hsl:=h.short s (by rw[ho]; simp)
 have hp:=h.Sv
 have hm:=h.Sw
 have hse:=h.sent
 have htx:=h.tx
 have hout:=hs.out
 rw[show lastOf c=1+s.length by unfold lastOf; rw[ho]]at hse
 have em:c0.bf=c.bf:=by rw[e]
 unfold Kt
 have hL:len (fm s)=s.length+2:=by rw[lN,gU]; omega
 have e2:aH (c.aN+c0.bf)=c.aN+c.bf:=by rw[em,dz (by omega) (by omega)]
 have e6:aH (c.aG - 1)=c.aG - 1:=dz (by omega) (by omega)
 have e3:bD (len (fm s)) (c.aN+c.bf)=min ((s.length:Int)+2) (c.aN+c.bf):=by unfold bD; rw[hL]; split <;> omega
 have e7:sub (fm s) c.aN (min ((s.length:Int)+2) (c.aN+c.bf))=some (partOf c s):=by
  have:=gB (fm s) c.aN.toNat (min ((s.length:Int)+2) (c.aN+c.bf)).toNat (by omega) (by rw[gU]; omega)
  rw[show((c.aN.toNat:Nat):Int)=c.aN by omega,show(((min ((s.length:Int)+2) (c.aN+c.bf)).toNat:Nat):Int)=min ((s.length:Int)+2) (c.aN+c.bf) by omega]at this
  rw[this]
  unfold partOf
  rw[List.drop_take]
  by_cases hc:c.aN+c.bf≤s.length+2
  ·rw[show(min ((s.length:Int)+2) (c.aN+c.bf)).toNat - c.aN.toNat=c.bf.toNat by omega]
  ·rw[List.take_of_length_le (by rw[List.length_drop,gU]; omega),List.take_of_length_le (by rw[List.length_drop,gU]; omega)]
 rw[if_pos (by rw[hf,ho]; simp[len]; omega),show idx c.Out 0=some s by rw[ho]; rfl,bs,CK F s hF (by omega),bs]
 simp only[e2,e3]
 have hpl:(partOf c s).length≤5000:=by unfold partOf; rw[List.length_take,List.length_drop,gU]; omega
 rw[e7,bs,bL (l:=([]:List Int)) (by simp; omega) (by omega),bs,List.nil_append,bL (by simp; omega) (by omega),bs,e6,hL]
 unfold KO
 by_cases hc:c.aN+c.bf≥s.length+2
 ·have hsub:sub c.Out 1 (len c.Out)=some r:=by
   have:=gB c.Out 1 c.Out.length (by rw[ho]; simp) (by omega)
   rw[List.take_length,ho]at this
   rw[ho]
   exact this
  have hr:r.length≤1000:=by rw[ho]at hout; simp at hout; omega
  rw[if_pos (by simp; omega),hsub,bs,bL (l:=([]:List (List Int))) (by simp; omega) (by omega),bs,List.nil_append,if_pos hc]
  rw[e]
 ·rw[if_neg (by simp; omega),if_neg hc,show min ((s.length:Int)+2) (c.aN+c.bf)=c.aN+c.bf by omega]
  rw[e]
theorem uO(F:Nat)(c0:aS)(hF:5<F)(hf:c0.Failed=false):∀(n:Nat) (c:aS) (l:List (List Int)),Ok c→Sm c→c = { c0 with aG:=c.aG,Out:=c.Out,aN:=c.aN }→c.aG<n→l.length+c.aG≤100000→(∀f∈l,f.length≤4096)→
 ∃r,iter (fun s:aS×List (List Int)=>PW F s.1 s.2) n (c,l)=some r∧iter (fun s:aS×List (List Int)=>Kt F c0 s.1 s.2) n (c,l)=some r∧Ok r.1∧Sm r.1∧r.2.length≤100000∧r.1 = { c0 with aG:=r.1.aG,Out:=r.1.Out,aN:=r.1.aN }∧∀f∈r.2,f.length≤4096
 | 0,c,l,h,_,_,hn,_,_=>by have:=h.tx; omega
 | n+1,c,l,h,hs,e,hn,hl,hfl=>by
   have htx:=h.tx
   by_cases hc:c.Out≠[]∧c.aG > 0
   ·obtain⟨s,r,ho⟩:=List.exists_cons_of_ne_nil hc.1
    have h1:=JY F c l s r hF (by omega) h ho hc.2
    have h2:=Kc F c c0 l s r hF (by omega) h hs hf e ho hc.2
    obtain⟨k1,k2,k3⟩:=SE h hs ho hc.2
    have h3:PW F c l=some (.next (KO c s r,l++[partOf c s])):=by
     unfold PW
     rw[if_pos (by rw[ho]; simp[len]; omega),h1]
     rfl
    obtain⟨q,q1,q2,q3⟩:=uO F c0 hF hf n (KO c s r) (l++[partOf c s]) k1 k2 (by unfold KO; split <;> rw[e]) (by omega) (by simp; omega) (fun f hf=>by
     rcases List.mem_append.1 hf with hf | hf
     ·exact hfl f hf
     ·rw[List.mem_singleton]at hf
      subst hf
      have:=h.Sw
      unfold partOf
      rw[List.length_take]
      omega)
    exact⟨q,by rw[bH h3,q1],by rw[bH h2,q2],q3⟩
   ·have hc':¬ (len c.Out > 0∧c.aG > 0):=fun hh=>hc ⟨fun e0=>by rw[e0]at hh; simp[len]at hh,hh.2⟩
    refine⟨(c,l),bE ?_,bE ?_,h,hs,by simp only; omega,e,hfl⟩
    ·show PW F c l=_
     unfold PW
     rw[if_neg (by simpa using hc')]
    ·show Kt F c0 c l=_
     unfold Kt
     rw[if_neg (by rw[hf]; simpa using hc'),← e]
theorem nD(F:Nat)(c:aS)(hF:100000<F)(hok:Ok c):∃r,q5g F c=some r∧ZI F c=some r∧Ok r.1∧r.2.length≤100000∧r.1 = { c with aG:=r.1.aG,Out:=r.1.Out,aN:=r.1.aN }∧∀f∈r.2,f.length≤4096:=by
 have hs:=hok.sm
 unfold q5g ZI qav q9l q9k
 rw[jr F c (by omega) hs,bs]
 have htx:=hok.tx
 by_cases hf:c.Failed=true
 ·refine⟨(c,[]),by rw[if_pos hf],?_,hok,by simp,rfl,by simp⟩
  obtain⟨G,rfl⟩:∃G,F=G+1:=⟨F - 1,by omega⟩
  have:iter (fun s:aS×List (List Int)=>Kt (G+1) c s.1 s.2) (G+1) (c,[])=some (c,[]):=bE (by
   show Kt (G+1) c c []=_
   unfold Kt
   rw[if_neg (by simp[hf])])
  rw[this]
  rfl
 ·have hf':c.Failed=false:=by simpa using hf
  obtain⟨r,q1,q2,q3,q4,q5,q6,q7⟩:=uO F c (by omega) hf' F c [] hok hs rfl (by omega) (by simp; omega) (by simp)
  exact⟨r,by rw[if_neg hf,q1]; rfl,by rw[q2,bs,← q6],q3,q5,q6,q7⟩
theorem EZ(F:Nat)(c:aS)(b:List Int)(hF:5000<F)(hs:Sm c)(hb:b.length≤16384)(h:Ok c):∃r,Z9 F c b=some r∧ZR F c b=some r∧Ok r.1∧r.1.Local=c.Local∧r.1.Remote=c.Remote:=by
 unfold Z9 ZR qae
 rw[jr F c (by omega) hs]
 simp only[bs]
 by_cases h1:c.Failed=true
 ·exact⟨_,by rw[if_pos h1],by rw[if_pos h1],h,rfl,rfl⟩
 rw[if_neg h1,if_neg h1]
 by_cases h2:decide (len b > c.gQ)=true
 ·exact⟨_,by rw[if_pos h2],by rw[if_pos h2],h,rfl,rfl⟩
 rw[if_neg h2,if_neg h2]
 by_cases h3:decide (len c.Out≥64)=true
 ·exact⟨_,by rw[if_pos h3],by rw[if_pos h3],h,rfl,rfl⟩
 rw[if_neg h3,if_neg h3]
 have hlb:=lN b
 have hlo:=lN c.Out
 simp only[decide_eq_true_eq]at h2 h3
 have ho:=h.few
 rw[vK F [b] (by simp; omega) (by simp) (by simp; omega),bL (l:=([]:List (List Int))) (by simp; omega) (by omega),bL (l:=([]:List Int)) (by simp; omega) (by omega)]
 simp only[bs,List.nil_append,List.flatten_singleton]
 rw[bL (by simp; omega) (by omega)]
 simp only[bs]
 refine⟨_,rfl,rfl,?_,rfl,rfl⟩
 ·obtain⟨a1,a2,b1,b2,b3,b4,b5,b6,b7,a4,a5,c1,c2,c3⟩:=h
  refine⟨a1,a2,b1,b2,b3,b4,b5,b6,b7,by simp only[lA,List.length_singleton]; omega,fun s hs=>?_,?_,c2,c3⟩
  ·rcases List.mem_append.1 hs with hs | hs
   ·exact a5 s hs
   ·rw[List.mem_singleton]at hs
    subst hs
    show(_:Int)≤c.gQ
    omega
  ·unfold lastOf at c1 ⊢
   simp only
   cases hc:c.Out with
   | nil=>rw[hc]at c1; simp only[List.nil_append]at c1 ⊢; omega
   | cons s r=>rw[hc]at c1; exact c1
theorem Lb(F:Nat)(c:aS)(n:Int)(hF:5000<F)(h:Ok c)(hf:c.Failed=false)(h1:1≤n)(h2:n≤65535 - c.aC):q63 F c n=some ({ c with aC:=c.aC+n },0)∧Zt F c n=some ({ c with aC:=c.aC+n },0)∧Ok { c with aC:=c.aC+n }:=by
 have hrx:=h.rx
 have e:aH (c.aC+n)=c.aC+n:=dz (by omega) (by omega)
 have e2:aH (65535 - c.aC)=65535 - c.aC:=dz (by omega) (by omega)
 have n1:¬ decide (n<1)=true:=df (by omega)
 have n2:¬ decide (n > 65535 - c.aC)=true:=df (by omega)
 refine⟨?_,?_,?_⟩
 ·unfold q63 Zc WI
  rw[jr F c (by omega) h.sm]
  simp only[bs]
  rw[if_neg (by simp[hf]),e2,e,if_neg n1,if_neg n2]
  rfl
 ·unfold Zt
  rw[if_neg (by simp[hf]),e2,e,if_neg n1,if_neg n2]
 ·obtain⟨a1,a2,b1,b2,b3,b4,b5,b6,b7,a4,a5,c1,c2,c3⟩:=h
  exact⟨a1,a2,b1,b2,b3,b4,b5,by simp only; omega,b7,a4,a5,c1,c2,c3⟩
theorem Dz(F:Nat)(c:aS)(n:Int)(hF:5000<F)(hs:Sm c)(h:Ok c):∃r,q4r F c n=some r∧q4y F c n=some r∧Ok r.1∧r.1.Local=c.Local∧r.1.Remote=c.Remote:=by
 unfold q4r q4y Zd WI
 rw[jr F c (by omega) hs]
 simp only[bs]
 have hrx:=h.tx
 have hf:Ok { c with Failed:=true }:=by
  obtain⟨a1,a2,b1,b2,b3,b4,b5,b6,b7,a4,a5,c1,c2,c3⟩:=h
  exact⟨a1,a2,b1,b2,b3,b4,b5,b6,b7,a4,a5,c1,c2,c3⟩
 have hsf:Sm { c with Failed:=true }:=⟨hs.out,hs.each,hs.inn⟩
 by_cases h1:c.Failed=true
 ·exact⟨_,by rw[if_pos h1],by rw[if_pos h1],h,rfl,rfl⟩
 rw[if_neg h1,if_neg h1]
 rw[dz (x:=65535 - c.aG) (by omega) (by omega)]
 by_cases h2:n<1
 ·refine⟨_,by rw[if_pos (by simpa using h2)]; rfl,by rw[if_pos (by simp[h2]),if_pos (by simpa using h2)],hf,rfl,rfl⟩
 rw[if_neg (c:=decide (n<1)=true) (by simpa using h2)]
 by_cases h3:n > 65535 - c.aG
 ·exact⟨_,by rw[if_pos (by simpa using h3)]; rfl,by rw[if_pos (by simp[h3]),if_neg (by simpa using h2)],hf,rfl,rfl⟩
 rw[if_neg (c:=decide (n > 65535 - c.aG)=true) (by simpa using h3),if_neg (by simp[h2,h3])]
 have hff:c.Failed=false:=by simpa using h1
 refine⟨_,rfl,?_,?_,rfl,rfl⟩
 ·rfl
 obtain⟨a1,a2,b1,b2,b3,b4,b5,b6,b7,a4,a5,c1,c2,c3⟩:=h
 refine⟨a1,a2,b1,b2,b3,b4,?_,b6,b7,a4,a5,c1,c2,c3⟩
 show 0≤aH _∧aH _≤65535
 rw[dz (by omega) (by omega)]
 omega
end Sd
end V
end Go.Proofs.YtbgfhaahhdnogaaGreat

namespace Go.Proofs.YtbgfhaahhdnogaaGreat
namespace V
theorem ff:10000000000<FF:=by decide
theorem iT:∀(l m:List Int),l.Nodup→(∀x∈l,x∈m)→l.length≤m.length
 | [],_,_,_=>by simp
 | x::l,m,hn,hs=>by
   rw[List.nodup_cons]at hn
   have hx:=hs x (by simp)
   have h1:=iT l (m.erase x) hn.2 fun y hy=>by
    have hne:y≠x:=fun e=>hn.1 (e▸hy)
    exact(List.mem_erase_of_ne hne).2 (hs y (by simp[hy]))
   rw[List.length_erase_of_mem hx]at h1
   have h2:0<m.length:=List.length_pos_of_mem hx
   rw[List.length_cons]
   omega
def oD(l:List Int)(v:Int):List Int:=if l.any (fun x=>v == x)=true then l else l++[v]
theorem DL(l:List Int)(v w:Int):w∈oD l v↔w∈l∨w=v:=by
 unfold oD
 split
 ·rename_i h
  rw[List.any_eq_true]at h
  obtain⟨x,hx,he⟩:=h
  have:v=x:=by simpa using he
  subst this
  constructor
  ·exact .inl
  ·rintro(h | rfl)
   ·exact h
   ·exact hx
 ·simp
theorem xX{l:List Int}(h:l.Nodup)(v:Int):(oD l v).Nodup:=by
 unfold oD
 split
 ·exact h
 ·rename_i hn
  rw[List.nodup_append]
  refine⟨h,by simp,fun a ha b hb e=>hn ?_⟩
  rw[List.mem_singleton]at hb
  rw[List.any_eq_true]
  exact⟨a,ha,by simp[e,hb]⟩
theorem DN(l:List Int)(v:Int):(oD l v).length≤l.length+1:=by
 unfold oD; split <;> simp
def lU(l:List Int)(cs:List aS):List Int:=cs.foldl (fun l c=>oD l c.Local) l
def lW(l:List Int)(as:List aO):List Int:=as.foldl (fun l s=>if (s.Kind == 20||s.Kind == 6)=true then oD l s.Source else l) l
theorem lT:∀(cs:List aS) (l:List Int),l.Nodup→(lU l cs).Nodup∧(lU l cs).length≤l.length+cs.length∧∀w,w∈lU l cs↔w∈l∨∃c∈cs,c.Local=w
 | [],l,h=>⟨h,by simp[lU],fun w=>by simp[lU]⟩
 | c::cs,l,h=>by
   obtain⟨h1,h2,h3⟩:=lT cs (oD l c.Local) (xX h _)
   have e:lU l (c::cs)=lU (oD l c.Local) cs:=rfl
   rw[e]
   refine⟨h1,by have:=DN l c.Local; rw[List.length_cons]; omega,fun w=>?_⟩
   rw[h3,DL]
   constructor
   ·rintro((h | rfl) | ⟨c',hc,rfl⟩)
    ·exact .inl h
    ·exact .inr ⟨c,by simp,rfl⟩
    ·exact .inr ⟨c',by simp[hc],rfl⟩
   ·rintro(h | ⟨c',hc,rfl⟩)
    ·exact .inl (.inl h)
    ·rcases List.mem_cons.1 hc with rfl | hc
     ·exact .inl (.inr rfl)
     ·exact .inr ⟨c',hc,rfl⟩
theorem lV:∀(as:List aO) (l:List Int),l.Nodup→(lW l as).Nodup∧(lW l as).length≤l.length+as.length∧∀w,w∈lW l as↔w∈l∨∃s∈as,(s.Kind=20∨s.Kind=6)∧s.Source=w
 | [],l,h=>⟨h,by simp[lW],fun w=>by simp[lW]⟩
 | s::as,l,h=>by
   by_cases hk:(s.Kind == 20||s.Kind == 6)=true
   ·obtain⟨h1,h2,h3⟩:=lV as (oD l s.Source) (xX h _)
    have e:lW l (s::as)=lW (oD l s.Source) as:=by unfold lW; rw[List.foldl_cons,if_pos hk]
    rw[e]
    have hk2:s.Kind=20∨s.Kind=6:=by simpa using hk
    refine⟨h1,by have:=DN l s.Source; rw[List.length_cons]; omega,fun w=>?_⟩
    rw[h3,DL]
    constructor
    ·rintro((h | rfl) | ⟨c',hc,hq⟩)
     ·exact .inl h
     ·exact .inr ⟨s,by simp,hk2,rfl⟩
     ·exact .inr ⟨c',by simp[hc],hq⟩
    ·rintro(h | ⟨c',hc,hq⟩)
     ·exact .inl (.inl h)
     ·rcases List.mem_cons.1 hc with rfl | hc
      ·exact .inl (.inr hq.2.symm)
      ·exact .inr ⟨c',hc,hq⟩
   ·obtain⟨h1,h2,h3⟩:=lV as l h
    have e:lW l (s::as)=lW l as:=by unfold lW; rw[List.foldl_cons,if_neg hk]
    rw[e]
    have hk2:¬ (s.Kind=20∨s.Kind=6):=by simpa using hk
    refine⟨h1,by rw[List.length_cons]; omega,fun w=>?_⟩
    rw[h3]
    constructor
    ·rintro(h | ⟨c',hc,hq⟩)
     ·exact .inl h
     ·exact .inr ⟨c',by simp[hc],hq⟩
    ·rintro(h | ⟨c',hc,hq⟩)
     ·exact .inl h
     ·rcases List.mem_cons.1 hc with rfl | hc
      ·exact absurd hq.1 hk2
      ·exact .inr ⟨c',hc,hq⟩
def dH(m:aJ)(l:Int):Bool:=m.aB.any fun s=>(s.Kind == 6)&&(s.Source == l)
def yP(m:aJ)(k l:Int):Bool:=m.aB.any fun s=>(s.Kind == k)&&(s.Source == l)
def yH(m:aJ)(mQ:Int):Int:=fidx (fun c:aS=>c.Local == mQ) m.aj
def Ig(m:aJ)(mQ:Int):Int:=fidx (fun c:aS=>c.Remote == mQ) m.aj
def dS(m:aJ)(mQ:Int):Bool:=(m.aj.any (fun c=>c.Local == mQ)||yP m 20 mQ)||yP m 6 mQ
def iP:List Int:=(List.range 64).map fun(i:Nat)=>64+(i:Int)
def gG(m:aJ):Nat:=(iP.filter (dS m)).length
def zP(m:aJ):Int:=(iP.find? fun v=>!dS m v).getD 0
theorem pR:iP.Nodup:=by
 unfold iP List.Nodup
 rw[List.pairwise_map]
 exact List.pairwise_lt_range.imp fun h=>by omega
theorem xV(v:Int):v∈iP↔64≤v∧v≤127:=by
 unfold iP
 rw[List.mem_map]
 constructor
 ·rintro⟨i,hi,rfl⟩
  rw[List.mem_range]at hi
  omega
 ·intro h
  exact⟨(v - 64).toNat,by rw[List.mem_range]; omega,by omega⟩
theorem dM(m:aJ)(v:Int):dS m v=true↔(∃c∈m.aj,c.Local=v)∨∃s∈m.aB,(s.Kind=20∨s.Kind=6)∧s.Source=v:=by
 unfold dS yP
 simp only[Bool.or_eq_true,List.any_eq_true,Bool.and_eq_true,beq_iff_eq]
 constructor
 ·rintro((h | ⟨s,hs,h1,h2⟩) | ⟨s,hs,h1,h2⟩)
  ·exact .inl h
  ·exact .inr ⟨s,hs,.inl h1,h2⟩
  ·exact .inr ⟨s,hs,.inr h1,h2⟩
 ·rintro(h | ⟨s,hs,h1 | h1,h2⟩)
  ·exact .inl (.inl h)
  ·exact .inl (.inr ⟨s,hs,h1,h2⟩)
  ·exact .inr ⟨s,hs,h1,h2⟩
def mU(m:aJ):List Int:=lW (lU [] m.aj) m.aB
theorem uo(m:aJ):(mU m).Nodup∧(mU m).length≤m.aj.length+m.aB.length∧∀w,w∈mU m↔dS m w=true:=by
 obtain⟨a1,a2,a3⟩:=lT m.aj [] (by simp)
 obtain⟨b1,b2,b3⟩:=lV m.aB _ a1
 refine⟨b1,by simp at a2; unfold mU; omega,fun w=>?_⟩
 show w∈lW (lU [] m.aj) m.aB↔_
 rw[b3,a3,dM]
 simp
def yt(m:aJ):Prop:=(∀c∈m.aj,64≤c.Local∧c.Local≤127)∧∀s∈m.aB,(s.Kind=20∨s.Kind=6)→64≤s.Source∧s.Source≤127
theorem zL{m:aJ}(h:yt m){v:Int}(hv:dS m v=true):64≤v∧v≤127:=by
 rcases(dM m v).1 hv with⟨c,hc,rfl⟩ | ⟨s,hs,hk,rfl⟩
 ·exact h.1 c hc
 ·exact h.2 s hs hk
theorem G9{m:aJ}(h:yt m):(mU m).length=gG m:=by
 obtain⟨b1,_,b3⟩:=uo m
 unfold gG
 apply Nat.le_antisymm
 ·refine iT _ _ b1 fun x hx=>?_
  have hx2:=(b3 x).1 hx
  rw[List.mem_filter]
  exact⟨(xV x).2 (zL h hx2),hx2⟩
 ·refine iT _ _ (pR.filter _) fun x hx=>?_
  rw[List.mem_filter]at hx
  exact(b3 x).2 hx.2
theorem tN{m:aJ}(h:gG m<64):∃v,iP.find? (fun v=>!dS m v)=some v∧zP m=v∧dS m v=false∧64≤v∧v≤127:=by
 cases hf:iP.find? (fun v=>!dS m v)with
 | none=>
   exfalso
   rw[List.find?_eq_none]at hf
   have:iP.filter (dS m)=iP:=by
    rw[List.filter_eq_self]
    intro a ha
    simpa using hf a ha
   unfold gG at h
   rw[this]at h
   simp[iP]at h
 | some v=>
   have h1:=List.find?_some hf
   have h2:=List.mem_of_find?_eq_some hf
   refine⟨v,rfl,?_,by simpa using h1,(xV v).1 h2⟩
   unfold zP
   rw[hf]
   rfl
def after(n:Int):Int:=if n≥255 then 1 else n+1
def Jz:Nat→Int→Int
 | 0,n=>n
 | k+1,n=>Jz k (after n)
def yG(A:List aO):Nat→Int→Int
 | 0,n=>n
 | k+1,n=>if A.any (fun s=>s.ID == n)=true then yG A k (after n)else n
def vI(m:aJ):Int:=yG m.aB 255 m.bQ
theorem oo{n:Int}(h:1≤n∧n≤255):1≤after n∧after n≤255:=by unfold after; split <;> omega
theorem Mi:∀(k:Nat) (n:Int),1≤n∧n≤255→Jz k n=(n - 1+k) % 255+1
 | 0,n,h=>by unfold Jz; omega
 | k+1,n,h=>by
   unfold Jz
   rw[Mi k (after n) (oo h)]
   unfold after
   split <;> omega
theorem wZ(A:List aO)(n:Int)(hn:1≤n∧n≤255)(hA:A.length<255):∃j,j<255∧A.any (fun s=>s.ID == Jz j n)=false:=by
 apply Classical.byContradiction
 intro hno
 have hall:∀j,j<255→∃s∈A,s.ID=Jz j n:=fun j hj=>by
  have h1:A.any (fun s=>s.ID == Jz j n)=true:=by
   cases hb:A.any (fun s=>s.ID == Jz j n)with
   | true=>rfl
   | false=>exact absurd ⟨j,hj,hb⟩ hno
  rw[List.any_eq_true]at h1
  obtain⟨s,hs,he⟩:=h1
  exact⟨s,hs,by simpa using he⟩
 have hnd:((List.range 255).map fun(i:Nat)=>(i:Int)+1).Nodup:=by
  unfold List.Nodup
  rw[List.pairwise_map]
  exact List.pairwise_lt_range.imp fun h=>by omega
 have hlen:=iT _ (A.map (·.ID)) hnd fun v hv=>by
  rw[List.mem_map]at hv
  obtain⟨i,hi,rfl⟩:=hv
  rw[List.mem_range]at hi
  obtain⟨s,hs,he⟩:=hall (((i:Int)+255 - (n - 1)) % 255).toNat (by omega)
  rw[List.mem_map]
  refine⟨s,hs,?_⟩
  rw[he,Mi _ _ hn]
  omega
 simp at hlen
 omega
theorem nG(A:List aO):∀(k:Nat) (n:Int),1≤n∧n≤255→1≤yG A k n∧yG A k n≤255
 | 0,n,h=>h
 | k+1,n,h=>by
   unfold yG
   split
   ·exact nG A k _ (oo h)
   ·exact h
def qd(m:aJ)(mQ:Int)(b:List Int):aJ:={ m with Out:=m.Out++[⟨mQ,b⟩] }
def oC(m:aJ)(s:aO):aJ:=qd m 5 (Sg.rV s)
def mW(m:aJ):aJ:={ m with bQ:=after (vI m) }
def iD(s:aO)(n:Int):aO:={ s with ID:=n }
def yO(m:aJ)(s:aO):aJ:={ oC (mW m) (iD s (vI m))with aB:=m.aB++[iD s (vI m)] }
def tO(m:aJ)(c:aS):aJ:=if dH m c.Local=true then m else yO m ⟨6,0,0,c.Local,c.Remote,0,0,0,0,⟨0,0,0,0,0⟩⟩
def gy(m:aJ)(i:Nat)(c:aS):aJ:={ m with aj:=m.aj.set i c }
def wm(x:bG)(m:aJ):bG:={ x with aD:=m }
def qA(s:aO):Prop:=Sg.qG s=0∧0≤s.bg∧s.bg≤65535
end V
end Go.Proofs.YtbgfhaahhdnogaaGreat

namespace Go.Proofs.YtbgfhaahhdnogaaGreat
namespace V
theorem eY:FF=1125899906842624:=rfl
theorem FW{b:Bool}(h:¬ b=true):(!b)=true:=by cases b <;> simp_all
theorem OL(l:List aO)(c:aS)(hl:l.length≤1000000):q5d FF l c=some (l.any (fun s=>(s.Kind == 6)&&(s.Source == c.Local)),c):=by
 unfold q5d q7n
 have k:=jq (F:=FF) (body:=fun s:aS×Int=>PY FF l s.1 s.2) (l:=l) (p:=fun s=>(s.Kind == 6)&&(s.Source == c.Local)) (c:=c) (g:=fun i=>(i,c)) (fun i x hx=>by
  have hlt:=(gS.1 hx).1
  show PY FF l _ _=_
  unfold PY q7m
  rw[if_pos (by simp[len]; omega),aP hx]
  simp only[bs,wN i (by omega)]
  split <;> rfl) (by
  show PY FF l _ _=_
  unfold PY
  rw[if_neg (by simp[len])]) (by rw[eY]; omega)
 rw[k,← kr]
 unfold fidx
 cases l.findIdx? (fun s=>(s.Kind == 6)&&(s.Source == c.Local)) <;> rfl
theorem OJ(l:List aO)(n:Int)(hl:l.length≤1000000):q58 FF l n=some (l.any (fun s=>s.ID == n),n):=by
 unfold q58 q7j
 have k:=jq (F:=FF) (body:=fun s:Int×Int=>q2z FF l s.1 s.2) (l:=l) (p:=fun s=>s.ID == n) (c:=n) (g:=fun i=>(i,n)) (fun i x hx=>by
  have hlt:=(gS.1 hx).1
  show q2z FF l _ _=_
  unfold q2z q7i
  rw[if_pos (by simp[len]; omega),aP hx]
  simp only[bs,wN i (by omega)]
  split <;> rfl) (by
  show q2z FF l _ _=_
  unfold q2z
  rw[if_neg (by simp[len])]) (by rw[eY]; omega)
 rw[k,← kr]
 unfold fidx
 cases l.findIdx? (fun s=>s.ID == n) <;> rfl
theorem jo{α β:Type}{body:Int→Option (Out Int (Sum Unit β))}{l:List α}{p:α→Bool}{g:Int→β}(h:∀(i:Nat) x,l[i]? = some x→body (i:Int)=some (if p x=true then .done (.inr (g (i:Int)))else .next ((i+1:Nat):Int)))(he:body (l.length:Int)=some (.done (.inl ())))
 {F:Nat} (hF:l.length<F):iter body F 0=some (match l.findIdx? p with
  | some i=>.inr (g (i:Int))
  | none=>.inl ()):=by
 have key:∀(m:List α) (F k:Nat),l.drop k=m→k≤l.length→m.length<F→iter body F (k:Int)=some (match m.findIdx? p with
  | some i=>.inr (g ((k+i:Nat):Int))
  | none=>.inl ()):=by
  intro m
  induction m with
  | nil=>
    intro F k hd hk hF
    have hk2:k=l.length:=by
     have:=congrArg List.length hd
     rw[List.length_drop,List.length_nil]at this
     omega
    subst hk2
    cases F with
    | zero=>simp at hF
    | succ F=>rw[bE he]; rfl
  | cons x m ih=>
    intro F k hd hk hF
    have hx:l[k]? = some x:=by
     have:=congrArg (fun z:List α=>z[0]?) hd
     simpa using this
    have hlt:=(gS.1 hx).1
    have hd2:l.drop (k+1)=m:=by
     have:=congrArg List.tail hd
     simpa using this
    have hb:=h k x hx
    cases F with
    | zero=>simp at hF
    | succ F=>
      rw[List.findIdx?_cons]
      by_cases hp:p x=true
      ·rw[if_pos hp]at hb
       rw[bE hb,if_pos hp]
       simp
      ·rw[if_neg hp]at hb
       rw[bH hb,ih F (k+1) hd2 hlt (by simp at hF; omega),if_neg hp]
       cases m.findIdx? p with
       | none=>rfl
       | some i=>
         simp only[Option.map_some]
         rw[show k+1+i=k+(i+1) by omega]
 have:=key l F 0 (by simp) (by omega) hF
 rw[show((0:Nat):Int)=0 from rfl]at this
 rw[this]
 cases l.findIdx? p with
 | none=>rfl
 | some i=>simp
theorem Uf(l:List aO)(hl:l.length≤1000000):ZO FF l=some (l.any fun s=>s.Kind == 18):=by
 unfold ZO q85
 have k:=jo (F:=FF) (body:=fun s=>Pv FF l s) (l:=l) (p:=fun s=>s.Kind == 18) (g:=fun i=>i) (fun i x hx=>by
  have hlt:=(gS.1 hx).1
  show Pv FF l _=_
  unfold Pv q84
  rw[if_pos (by simp[len]; omega),aP hx]
  simp only[bs,wN i (by omega)]
  split <;> rfl) (by
  show Pv FF l _=_
  unfold Pv
  rw[if_neg (by simp[len])]) (by rw[eY]; omega)
 rw[k,← kr]
 unfold fidx
 cases l.findIdx? (fun s=>s.Kind == 18) <;> rfl
theorem SH(l:List aS)(n:Int)(hl:l.length≤1000000):q5l FF l n=some (fidx (fun c=>c.Local == n) l,n):=by
 unfold q5l fidx
 have k:=jq (F:=FF) (body:=fun s:Int×Int=>PV FF l s.1 s.2) (l:=l) (p:=fun c=>c.Local == n) (c:=n) (g:=fun i=>(i,n)) (fun i x hx=>by
  have hlt:=(gS.1 hx).1
  show PV FF l _ _=_
  unfold PV q7u
  rw[if_pos (by simp[len]; omega),aP hx]
  simp only[bs,wN i (by omega)]
  split <;> rfl) (by
  show PV FF l _ _=_
  unfold PV
  rw[if_neg (by simp[len])]) (by rw[eY]; omega)
 rw[k]
 cases l.findIdx? (fun c:aS=>c.Local == n) <;> rfl
theorem R3(l:List aS)(n:Int)(hl:l.length≤1000000):q5v FF l n=some (fidx (fun c=>c.Remote == n) l,n):=by
 unfold q5v fidx
 have k:=jq (F:=FF) (body:=fun s:Int×Int=>PN FF l s.1 s.2) (l:=l) (p:=fun c=>c.Remote == n) (c:=n) (g:=fun i=>(i,n)) (fun i x hx=>by
  have hlt:=(gS.1 hx).1
  show PN FF l _ _=_
  unfold PN q7y
  rw[if_pos (by simp[len]; omega),aP hx]
  simp only[bs,wN i (by omega)]
  split <;> rfl) (by
  show PN FF l _ _=_
  unfold PN
  rw[if_neg (by simp[len])]) (by rw[eY]; omega)
 rw[k]
 cases l.findIdx? (fun c:aS=>c.Remote == n) <;> rfl
theorem LJ(l:List Int)(v:Int)(hl:l.length≤10000000):WZ FF l v=some (l.any fun x=>v == x):=by
 unfold WZ q7h
 have k:=jo (F:=FF) (body:=fun s=>P8 FF l v s) (l:=l) (p:=fun x=>v == x) (g:=fun i=>i) (fun i x hx=>by
  have hlt:=(gS.1 hx).1
  show P8 FF l v _=_
  unfold P8
  rw[if_pos (by simp[len]; omega),aP hx]
  simp only[bs,wN i (by omega)]
  split <;> rfl) (by
  show P8 FF l v _=_
  unfold P8
  rw[if_neg (by simp[len])]) (by rw[eY]; omega)
 rw[k,← kr]
 unfold fidx
 cases l.findIdx? (fun x=>v == x) <;> rfl
theorem jv(x:bG)(c:aS)(h:x.aD.aB.length≤1000000):qt FF x c=some (dH x.aD c.Local):=by
 unfold qt
 rw[OL _ c h]
 rfl
theorem rH(x:bG)(n:Int)(h:x.aD.aj.length≤1000000):q16 FF x n=some (yH x.aD n):=by
 unfold q16
 rw[SH _ n h]
 rfl
theorem sZ(x:bG)(n:Int)(h:x.aD.aj.length≤1000000):UZ FF x n=some (Ig x.aD n):=by
 unfold UZ
 rw[R3 _ n h]
 rfl
theorem BX(l:List Int)(v:Int)(hl:l.length≤5000000):WY FF v l=some (oD l v):=by
 unfold WY oD
 rw[LJ l v (by omega),bs]
 by_cases h:l.any (fun x=>v == x)=true
 ·rw[if_neg (by simp[h]),if_pos h]
 ·rw[if_pos (FW h),if_neg h,bL (by simp; omega) (by omega)]
  rfl
theorem He(l:List Int)(cs:List aS)(c:aS):lU l (cs++[c])=oD (lU l cs) c.Local:=by simp[lU]
theorem Hf(l:List Int)(as:List aO)(s:aO):lW l (as++[s])=if (s.Kind == 20||s.Kind == 6)=true then oD (lW l as) s.Source else lW l as:=by
 unfold lW
 rw[List.foldl_append]
 rfl
theorem Ae(x:bG)(h1:x.aD.aj.length≤1000000)(h2:x.aD.aB.length≤1000000):q57 FF x=some (mU x.aD):=by
 unfold q57
 have k:=dF (body:=fun s:List Int×Int=>NS FF x s.1 s.2) (fun i=>(lU [] (x.aD.aj.take i),(i:Int))) x.aD.aj.length (lU [] x.aD.aj) (fun i hi=>by
  have hx:x.aD.aj[i]? = some x.aD.aj[i]:=gE hi
  have hln:=(lT (x.aD.aj.take i) [] (by simp)).2.1
  rw[List.length_take]at hln
  show NS FF x (lU [] (x.aD.aj.take i)) (i:Int)=_
  unfold NS
  rw[if_pos (by simp[len]; omega),aP hx,bs,BX _ _ (by simp at hln; omega)]
  simp only[bs,wN i (by omega)]
  rw[← ji hx,He]) (by
  show NS FF x _ _=_
  unfold NS
  rw[if_neg (by simp[len]),List.take_length]) FF 0 (by omega) (by rw[eY]; omega)
 rw[List.take_zero,show((0:Nat):Int)=0 from rfl]at k
 have k':iter (fun s:List Int×Int=>NS FF x s.1 s.2) FF ([],0)=some (lU [] x.aD.aj):=k
 rw[k',bs]
 unfold q9a
 have hC:=(lT x.aD.aj [] (by simp))
 have k2:=dF (body:=fun s:List Int×Int=>NT FF x s.1 s.2) (fun i=>(lW (lU [] x.aD.aj) (x.aD.aB.take i),(i:Int))) x.aD.aB.length (mU x.aD) (fun i hi=>by
  have hx:x.aD.aB[i]? = some x.aD.aB[i]:=gE hi
  have hln:=(lV (x.aD.aB.take i) _ hC.1).2.1
  have hC2:=hC.2.1
  rw[List.length_take]at hln
  show NT FF x (lW (lU [] x.aD.aj) (x.aD.aB.take i)) (i:Int)=_
  unfold NT Zm
  rw[if_pos (by simp[len]; omega),aP hx,bs,← ji hx,Hf]
  by_cases hk:(x.aD.aB[i].Kind == 20||x.aD.aB[i].Kind == 6)=true
  ·rw[if_pos hk,if_pos hk,BX _ _ (by simp at hC2; omega)]
   simp only[bs,wN i (by omega)]
  ·rw[if_neg hk,if_neg hk,wN i (by omega)]) (by
  show NT FF x _ _=_
  unfold NT
  rw[if_neg (by simp[len]),List.take_length]
  rfl) FF 0 (by omega) (by rw[eY]; omega)
 rw[List.take_zero,show((0:Nat):Int)=0 from rfl]at k2
 have k2':iter (fun s:List Int×Int=>NT FF x s.1 s.2) FF (lU [] x.aD.aj,0)=some (mU x.aD):=k2
 rw[k2']
 rfl
theorem GD(x:bG)(h1:x.aD.aj.length≤1000000)(h2:x.aD.aB.length≤1000000)(hc:yt x.aD):U3 FF x=some (if gG x.aD<16 then zP x.aD else 0,decide (gG x.aD<16)):=by
 unfold U3
 rw[Ae x h1 h2,bs]
 have hl:=G9 hc
 by_cases h16:gG x.aD<16
 ·rw[if_neg (df (show ¬ (len (mU x.aD)≥16) by rw[lN]; omega)),if_pos h16,dt h16]
  obtain⟨v,f1,f2,f3,f4,f5⟩:=tN (m:=x.aD) (by omega)
  have hmem:=(uo x.aD).2.2
  have hlt:∀u,64≤u→u<v→dS x.aD u=true:=fun u hu huv=>by
   rw[List.find?_eq_some_iff_getElem]at f1
   obtain⟨_,i,hi,hiv,hbef⟩:=f1
   have OB:∀(j:Nat) (hj:j<iP.length),iP[j]=64+(j:Int):=fun j hj=>by simp[iP]
   have hcl:iP.length=64:=by simp[iP]
   rw[OB]at hiv
   have:=hbef (u - 64).toNat (by omega)
   rw[OB]at this
   rw[show(64:Int)+((u - 64).toNat:Int)=u by omega]at this
   simpa using this
  have loop:∀(k:Nat) (F:Nat) (u:Int),64≤u→u+k=v→k<F→iter (fun s=>P7 FF (mU x.aD) s) F u=some v:=by
   intro k
   induction k with
   | zero=>
     intro F u h1' h2' hF
     cases F with
     | zero=>omega
     | succ F=>
       have:u=v:=by omega
       subst this
       refine bE ?_
       show P7 FF _ u=_
       unfold P7
       rw[LJ _ _ (by omega),bs,if_neg (by
        rw[List.any_eq_true]
        rintro⟨y,hy,he⟩
        have:u=y:=by simpa using he
        subst this
        rw[(hmem u).1 hy]at f3
        cases f3)]
   | succ k ih=>
     intro F u h1' h2' hF
     cases F with
     | zero=>omega
     | succ F=>
       rw[bH (s':=u+1) (by
        show P7 FF _ u=_
        unfold P7
        rw[LJ _ _ (by omega),bs,if_pos (by
         rw[List.any_eq_true]
         exact⟨u,(hmem u).2 (hlt u h1' (by omega)),by simp⟩),dW (by omega) (by omega)])]
       exact ih F (u+1) (by omega) (by omega) (by omega)
  rw[loop (v - 64).toNat FF 64 (by omega) (by omega) (by rw[eY]; omega),f2]
  rfl
 ·rw[if_pos (dt (show len (mU x.aD)≥16 by rw[lN]; omega)),if_neg h16,decide_eq_false h16]
theorem rQ(x:bG):Sr FF x=some (decide (len x.aD.Out≥64)):=rfl
theorem Qk(x:bG)(hn:1≤x.aD.bQ∧x.aD.bQ≤255)(hA:x.aD.aB.length<255):UR FF x=some (vI x.aD,wm x (mW x.aD)):=by
 unfold UR
 have loop:∀(r:Nat) (F k:Nat) (n:Int),k+r=255→1≤n∧n≤256→(∃j,j<r∧x.aD.aB.any (fun s=>s.ID == Jz j (if n > 255 then 1 else n))=false)→r<F→iter (fun s:Int×Int=>P6 FF x s.1 s.2) F (n,(k:Int))=some (yG x.aD.aB r (if n > 255 then 1 else n)):=by
  intro r
  induction r with
  | zero=>intro F k n _ _ h _; obtain⟨j,hj,_⟩:=h; omega
  | succ r ih=>
    intro F k n hk hn' hex hF
    cases F with
    | zero=>omega
    | succ F=>
      have hb:P6 FF x n (k:Int)=UM FF x (k:Int) (if n > 255 then 1 else n):=by
       unfold P6
       rw[if_pos (by simp; omega)]
       by_cases h:n > 255
       ·rw[if_pos (by simp[h]),if_pos h]
       ·rw[if_neg (by simp; omega),if_neg h]
      generalize hq:(if n > 255 then 1 else n)=q at *
      have hqr:1≤q∧q≤255:=by subst hq; split <;> omega
      unfold yG
      have hb2:UM FF x (k:Int) q=some (if x.aD.aB.any (fun s=>s.ID == q)=true then .next (q+1,((k+1:Nat):Int))else .done q):=by
       unfold UM
       rw[OJ _ q (by omega),bs]
       by_cases h:x.aD.aB.any (fun s=>s.ID == q)=true
       ·rw[if_neg (by simp[h]),if_pos h,bJ (x:=q+1) (by omega) (by omega),wN k (by omega)]
       ·rw[if_pos (FW h),if_neg h]
      by_cases h:x.aD.aB.any (fun s=>s.ID == q)=true
      ·rw[if_pos h]at hb2
       have hb3:=hb.trans hb2
       rw[if_pos h,bH (s':=(q+1,((k+1:Nat):Int))) (by
        show P6 FF x n (k:Int)=_
        rw[hb3])]
       have e:(if q+1 > 255 then 1 else q+1)=after q:=by unfold after; split <;> split <;> omega
       obtain⟨j,hj,hjb⟩:=hex
       have:=ih F (k+1) (q+1) (by omega) (by omega) (by
        rw[e]
        cases j with
        | zero=>rw[Jz]at hjb; rw[hjb]at h; cases h
        | succ j=>exact⟨j,by omega,hjb⟩) (by omega)
       rw[e]at this
       exact this
      ·rw[if_neg h]at hb2
       have hb3:=hb.trans hb2
       rw[if_neg h,bE (o:=q) (by
        show P6 FF x n (k:Int)=_
        rw[hb3])]
 have hex:=wZ x.aD.aB x.aD.bQ hn hA
 have k:=loop 255 FF 0 x.aD.bQ rfl ⟨hn.1,by omega⟩ (by rw[if_neg (by omega)]; exact hex) (by rw[eY]; omega)
 rw[if_neg (by omega),show((0:Nat):Int)=0 from rfl]at k
 rw[k,bs]
 unfold q9b
 have hr:=nG x.aD.aB 255 x.aD.bQ hn
 have e:aH (uX (yG x.aD.aB 255 x.aD.bQ) 255+1)=after (vI x.aD):=by
  unfold uX after vI
  rw[Int.tmod_eq_emod_of_nonneg (by omega),bJ (by omega) (by omega)]
  split <;> omega
 rw[e]
 rfl
theorem wQ(x:bG)(mQ:Int)(b:List Int)(hb:b.length≤10000000)(ho:x.aD.Out.length≤1000000000):U2 FF x mQ b=some (wm x (qd x.aD mQ b)):=by
 unfold U2
 rw[join_one FF b (by rw[eY]; omega) (by omega),bs,bL (by simp; omega) (by omega)]
 rfl
theorem AL(s:aO):(Sg.rV s).length≤14:=by
 have:=Sg.rY s
 unfold Sg.rV
 simp; omega
theorem lZ(x:bG)(s:aO)(hs:qA s)(ho:x.aD.Out.length≤1000000000):qe FF x s=some (wm x (oC x.aD s)):=by
 unfold qe
 have hl:=AL s
 rw[Sg.Nc s ⟨hs.2.1,hs.2.2⟩,bs]
 unfold Sg.oh
 rw[if_pos hs.1]
 simp only
 rw[if_pos (by simp),wQ x 5 _ (by omega) ho]
 rfl
theorem FY(x:bG)(s:aO)(hs:qA (iD s (vI x.aD)))(hn:1≤x.aD.bQ∧x.aD.bQ≤255)(hA:x.aD.aB.length<255)(ho:x.aD.Out.length≤1000000000):U1 FF x s=some (wm x (yO x.aD s)):=by
 unfold U1
 rw[Qk x hn hA]
 simp only[bs]
 have e:=lZ (wm x (mW x.aD)) (iD s (vI x.aD)) hs ho
 unfold iD at e
 rw[e,bs]
 have hAl:(wm (wm x (mW x.aD)) (oC (wm x (mW x.aD)).aD { s with ID:=vI x.aD })).aD.aB=x.aD.aB:=rfl
 rw[hAl,bL (by simp; omega) (by omega)]
 rfl
theorem nV(x:bG)(e:bM)(he:x.events.length≤1000000000):qg FF x e=some { x with events:=x.events++[e] }:=by
 unfold qg
 rw[bL (by simp; omega) (by omega)]
 rfl
theorem Ls(x:bG)(i:Nat)(c:aS)(hc:x.aD.aj[i]? = some c)(hs:qA (iD ⟨6,0,0,c.Local,c.Remote,0,0,0,0,⟨0,0,0,0,0⟩⟩ (vI x.aD)))(hn:1≤x.aD.bQ∧x.aD.bQ≤255)(hA:x.aD.aB.length<255)(ho:x.aD.Out.length≤1000000000):NV FF x (i:Int)=some (wm x (tO x.aD c)):=by
 unfold NV tO
 rw[aP hc,bs,jv x c (by omega),bs]
 by_cases h:dH x.aD c.Local=true
 ·rw[if_neg (by simp[h]),if_pos h]; rfl
 ·rw[if_pos (FW h),if_neg h,FY x _ hs hn hA ho]; rfl
end V
end Go.Proofs.YtbgfhaahhdnogaaGreat

namespace Go.Proofs.YtbgfhaahhdnogaaGreat
namespace V
theorem jW(m:aJ)(n:Int)(hl:m.aj.length≤1000000):ql FF m n=some (yH m n):=by
 unfold ql yH fidx
 have k:=jo (F:=FF) (body:=fun s=>Pz FF m n s) (l:=m.aj) (p:=fun c=>c.Local == n) (g:=fun i=>i) (fun i x hx=>by
  have hlt:=(gS.1 hx).1
  show Pz FF m n _=_
  unfold Pz
  rw[if_pos (by simp[len]; omega),aP hx]
  simp only[bs,wN i (by omega)]
  split <;> rfl) (by
  show Pz FF m n _=_
  unfold Pz
  rw[if_neg (by simp[len])]) (by rw[eY]; omega)
 rw[k]
 cases m.aj.findIdx? (fun c:aS=>c.Local == n) <;> rfl
theorem oZ(m:aJ)(n:Int)(hl:m.aj.length≤1000000):UU FF m n=some (Ig m n):=by
 unfold UU Ig fidx
 have k:=jo (F:=FF) (body:=fun s=>Pq FF m n s) (l:=m.aj) (p:=fun c=>c.Remote == n) (g:=fun i=>i) (fun i x hx=>by
  have hlt:=(gS.1 hx).1
  show Pq FF m n _=_
  unfold Pq
  rw[if_pos (by simp[len]; omega),aP hx]
  simp only[bs,wN i (by omega)]
  split <;> rfl) (by
  show Pq FF m n _=_
  unfold Pq
  rw[if_neg (by simp[len])]) (by rw[eY]; omega)
 rw[k]
 cases m.aj.findIdx? (fun c:aS=>c.Remote == n) <;> rfl
theorem vQ(m:aJ)(kd n:Int)(hl:m.aB.length≤1000000):Sn FF m kd n=some (yP m kd n):=by
 unfold Sn
 have k:=jo (F:=FF) (body:=fun s=>Py FF m kd n s) (l:=m.aB) (p:=fun s=>(s.Kind == kd)&&(s.Source == n)) (g:=fun _=>true) (fun i x hx=>by
  have hlt:=(gS.1 hx).1
  show Py FF m kd n _=_
  unfold Py
  rw[if_pos (by simp[len]; omega)]
  simp only[aP hx,bs,wN i (by omega)]
  cases (x.Kind == kd) <;> cases (x.Source == n) <;> rfl) (by
  show Py FF m kd n _=_
  unfold Py
  rw[if_neg (by simp[len])]) (by rw[eY]; omega)
 rw[k]
 unfold yP
 rw[← kr]
 unfold fidx
 cases m.aB.findIdx? (fun s=>(s.Kind == kd)&&(s.Source == n)) <;> rfl
theorem iA(m:aJ)(n:Int)(hl:m.aB.length≤1000000):qn FF m n=some (dH m n):=by
 unfold qn
 rw[vQ m 6 n hl]
 rfl
theorem Od(m:aJ)(n:Int):decide (yH m n≥0)=m.aj.any (fun c=>c.Local == n):=kr _ _
theorem K4(m:aJ)(n:Int)(h1:m.aj.length≤1000000)(hl:m.aB.length≤1000000):Z0 FF m n=some (dS m n):=by
 unfold Z0 dS
 rw[jW m n h1,bs,vQ m 20 n hl,vQ m 6 n hl,Od]
 cases m.aj.any (fun c=>c.Local == n) <;> cases yP m 20 n <;> cases yP m 6 n <;> rfl
theorem Cz(m:aJ)(h1:m.aj.length≤1000000)(hl:m.aB.length≤1000000):Wy FF m=some (zP m,decide (gG m<16)):=by
 unfold Wy
 have hcl:iP.length=64:=by simp[iP]
 have OB:∀(j:Nat),j<64→iP[j]? = some (64+(j:Int)):=fun j hj=>by simp[iP,hj]
 have loop:∀(k:Nat) (F:Nat) (n:Nat) (f:Int),k≤64→n+k≤1000→k<F→iter (fun s:Int×Int×Int=>Px FF m s.1 s.2.1 s.2.2) F ((n:Int),f,63+(k:Int))=some (((n+((iP.take k).filter (dS m)).length:Nat):Int),((iP.take k).find? fun v=>!dS m v).getD f):=by
  intro k
  induction k with
  | zero=>
    intro F n f _ _ hF
    cases F with
    | zero=>omega
    | succ F=>
      refine bE ?_
      show Px FF m (n:Int) f (63+((0:Nat):Int))=_
      unfold Px
      rw[if_neg (df (by omega))]
      simp
  | succ k ih=>
    intro F n f hk hn hF
    cases F with
    | zero=>omega
    | succ F=>
      have hx:=OB k (by omega)
      have hst:Px FF m (n:Int) f (63+((k+1:Nat):Int))=some (.next (if dS m (64+(k:Int))=true then(((n+1:Nat):Int),f,63+(k:Int))else((n:Int),64+(k:Int),63+(k:Int)))):=by
       unfold Px Za
       rw[show(63:Int)+((k+1:Nat):Int)=64+(k:Int) by omega,if_pos (dt (by omega)),K4 m _ h1 hl,bs,wN n (by omega),show(64:Int)+(k:Int) - 1=63+(k:Int) by omega,dW (by omega) (by omega)]
       split <;> rfl
      rw[← ji hx,List.filter_append,lA,List.find?_append]
      by_cases hu:dS m (64+(k:Int))=true
      ·rw[if_pos hu]at hst
       rw[bH (s':=(((n+1:Nat):Int),f,63+(k:Int))) hst,ih F (n+1) f (by omega) (by omega) (by omega)]
       simp only[List.filter_cons,hu,if_true,List.filter_nil,List.length_singleton,List.find?_cons,Bool.not_true,List.find?_nil,Option.or_none]
       rw[show n+1+((iP.take k).filter (dS m)).length=n+(((iP.take k).filter (dS m)).length+1) by omega]
      ·rw[if_neg hu]at hst
       have hu':dS m (64+(k:Int))=false:=by simpa using hu
       rw[bH (s':=((n:Int),64+(k:Int),63+(k:Int))) hst,ih F n _ (by omega) (by omega) (by omega)]
       simp only[List.filter_cons,hu',Bool.false_eq_true,if_false,List.filter_nil,List.length_nil,List.find?_cons,Bool.not_false,Nat.add_zero]
       cases (iP.take k).find? (fun v=>!dS m v) <;> rfl
 have k:=loop 64 FF 0 0 (by omega) (by omega) (by rw[eY]; omega)
 rw[show(63:Int)+((64:Nat):Int)=127 by decide,show((0:Nat):Int)=0 from rfl,List.take_of_length_le (by omega)]at k
 rw[k,bs]
 unfold qar zP gG
 simp only[Nat.zero_add]
 congr 2
 by_cases h:(iP.filter (dS m)).length<16
 ·rw[dt h,dt (by omega)]
 ·rw[decide_eq_false h,decide_eq_false (by omega)]
theorem zq(n:Int)(h:n≤1000)(h0:0≤n):Wx FF n=some (after n):=by
 unfold Wx after
 by_cases h1:n≥255
 ·rw[if_pos (dt h1),if_pos h1]
 ·rw[if_neg (df h1),if_neg h1,bJ (by omega) (by omega)]
theorem za(m:aJ)(n:Int)(hn:1≤n∧n≤255)(hA:m.aB.length≤1000):∀(l:List aO) (k f:Nat),m.aB.drop k=l→k≤m.aB.length→l.length<f→
 ∃f',f≤f'+l.length+1∧iter (fun s:Int×Int=>Jt FF m s.1 s.2) f (n,(k:Int))=if l.any (fun s=>s.ID == n)=true then iter (fun s:Int×Int=>Jt FF m s.1 s.2) f' (after n,0)else some n
 | [],k,f,hd,hk,hf=>by
   have hk2:k=m.aB.length:=by
    have:=congrArg List.length hd
    rw[List.length_drop,List.length_nil]at this
    omega
   cases f with
   | zero=>omega
   | succ f=>
     refine⟨f,by simp,?_⟩
     rw[bE (o:=n) (by
      show Jt FF m n (k:Int)=_
      unfold Jt
      rw[if_neg (df (by rw[lN]; omega))])]
     simp
 | s::l,k,f,hd,hk,hf=>by
   have hx:m.aB[k]? = some s:=by
    have:=congrArg (fun z:List aO=>z[0]?) hd
    simpa using this
   have hlt:=(gS.1 hx).1
   have hd2:m.aB.drop (k+1)=l:=by
    have:=congrArg List.tail hd
    simpa using this
   cases f with
   | zero=>simp at hf
   | succ f=>
     by_cases hs:(s.ID == n)=true
     ·refine⟨f,by omega,?_⟩
      rw[bH (s':=(after n,0)) (by
       show Jt FF m n (k:Int)=_
       unfold Jt V6
       rw[if_pos (dt (by rw[lN]; omega)),aP hx,bs,if_pos hs,zq n (by omega) (by omega),bs]
       rfl),if_pos (by rw[List.any_cons,hs]; rfl)]
     ·obtain⟨f',h1,h2⟩:=za m n hn hA l (k+1) f hd2 hlt (by simp at hf; omega)
      refine⟨f',by rw[List.length_cons]; omega,?_⟩
      rw[bH (s':=(n,((k+1:Nat):Int))) (by
       show Jt FF m n (k:Int)=_
       unfold Jt V6
       rw[if_pos (dt (by rw[lN]; omega)),aP hx,bs,if_neg hs,wN k (by omega)]),h2]
      have e:(s::l).any (fun s=>s.ID == n)=l.any (fun s=>s.ID == n):=by
       rw[List.any_cons,(Bool.not_eq_true _).mp hs]; rfl
      rw[e]
theorem ze(m:aJ)(hA:m.aB.length≤1000):∀(r:Nat) (n:Int) (f:Nat),1≤n∧n≤255→(∃j,j<r∧m.aB.any (fun s=>s.ID == Jz j n)=false)→r * (m.aB.length+1)<f→
 iter (fun s:Int×Int=>Jt FF m s.1 s.2) f (n,0)=some (yG m.aB r n)
 | 0,n,f,_,⟨j,hj,_⟩,_=>by omega
 | r+1,n,f,hn,⟨j,hj,hb⟩,hf=>by
   have hmul:(r+1) * (m.aB.length+1)=r * (m.aB.length+1)+(m.aB.length+1):=Nat.succ_mul _ _
   obtain⟨f',h1,h2⟩:=za m n hn hA m.aB 0 f (by simp) (by omega) (by omega)
   rw[show((0:Nat):Int)=0 from rfl]at h2
   rw[h2]
   unfold yG
   split
   ·rename_i h
    cases j with
    | zero=>rw[Jz]at hb; rw[hb]at h; cases h
    | succ j=>exact ze m hA r (after n) f' (oo hn) ⟨j,by omega,hb⟩ (by omega)
   ·rfl
theorem Gh(m:aJ)(hn:1≤m.bQ∧m.bQ≤255)(hA:m.aB.length<255):Ww FF m=some (mW m,vI m):=by
 unfold Ww
 have hex:=wZ m.aB m.bQ hn hA
 have hm:255 * (m.aB.length+1)<FF:=by rw[eY]; omega
 rw[ze m (by omega) 255 m.bQ FF hn hex hm,bs]
 unfold qas
 have hr:=nG m.aB 255 m.bQ hn
 rw[zq _ (by omega) (by omega)]
 rfl
theorem sV(m:aJ)(mQ:Int)(b:List Int)(hb:b.length≤10000000)(ho:m.Out.length≤1000000000):UY FF m mQ b=some (qd m mQ b):=by
 unfold UY
 rw[gZ (by omega) (by omega),bs,gZ (by omega) (by omega),bs,bL (by simp; omega) (by omega)]
 rfl
theorem oW(m:aJ)(s:aO)(hs:qA s)(ho:m.Out.length≤1000000000):qf FF m s=some (oC m s):=by
 unfold qf
 have hl:=AL s
 rw[Sg.NA s ⟨hs.2.1,hs.2.2⟩,bs]
 unfold Sg.oh
 rw[if_pos hs.1]
 simp only
 rw[sV m 5 _ (by omega) ho]
 rfl
theorem Al(m:aJ)(s:aO)(hs:qA (iD s (vI m)))(hn:1≤m.bQ∧m.bQ≤255)(hA:m.aB.length<255)(ho:m.Out.length≤1000000000):UW FF m s=some (yO m s):=by
 unfold UW qau
 rw[Gh m hn hA]
 simp only[bs]
 have e:=oW (mW m) (iD s (vI m)) hs ho
 unfold iD at e
 rw[e,bs]
 have hAl:(oC (mW m) { s with ID:=vI m }).aB=m.aB:=rfl
 rw[hAl,gZ (by omega) (by omega),bs,bL (by simp; omega) (by omega)]
 rfl
theorem Gi(m:aJ)(i:Nat)(c:aS)(hc:m.aj[i]? = some c)(hs:qA (iD ⟨6,0,0,c.Local,c.Remote,0,0,0,0,⟨0,0,0,0,0⟩⟩ (vI m)))(hn:1≤m.bQ∧m.bQ≤255)(hA:m.aB.length<255)(ho:m.Out.length≤1000000000):Sk FF m (i:Int)=some (tO m c):=by
 unfold Sk tO
 rw[aP hc,bs,iA m _ (by omega),bs]
 by_cases h:dH m c.Local=true
 ·rw[if_pos h,if_pos h]
 ·rw[if_neg h,if_neg h,Al m _ hs hn hA ho]; rfl
theorem lX{α:Type}{l:List α}{i:Nat}{x y:α}(h:l[i]? = some x):upd l (i:Int) y=some (l.set i y):=by
 have hlt:=(gS.1 h).1
 unfold upd
 rw[if_pos (by omega),Int.toNat_natCast]
theorem wR(m:aJ)(i:Nat)(c c':aS)(hc:m.aj[i]? = some c)(hl:m.aj.length≤1000000):qx FF m (i:Int) c'=some (gy m i c'):=by
 unfold qx
 rw[gZ (by omega) (by omega),bs,aP hc,bs,lX hc]
 rfl
end V
end Go.Proofs.YtbgfhaahhdnogaaGreat

namespace Go.Proofs.YtbgfhaahhdnogaaGreat
namespace V
def zu:fD:=⟨0,0,0,0,0⟩
structure MInv(k:Nat)(m:aJ):Prop where
 Ey:m.ay.length≤64
 Jv:∀l∈m.ay,iy l.bA=true∧iy l.bC=true∧countB l.au=true
 next:1≤m.bQ∧m.bQ≤255
 ask:∀s∈m.aB,qA s∧(s.Kind=20∨s.Kind=6∨s.Kind=18)
 uf:((m.aB.filter fun s=>s.Kind == 20||s.Kind == 6).map (·.Source)).Nodup
 vv:(m.aB.filter fun s=>s.Kind == 18).length≤1
 Jq:m.aj.Pairwise fun a b=>a.Local<b.Local
 yL:∀c∈m.aj,Sd.Ok c
 tQ:∀c∈m.aj,∀s∈m.aB,s.Kind=20→s.Source≠c.Local
 cnt:gG m≤16
 out:∀f∈m.Out,f.Payload.length≤4096∧1≤f.cO∧f.cO≤65535
 oI:m.Out=[]→m.aN=0
 sent:∀f r,m.Out=f::r→0≤m.aN∧m.aN<4+f.Payload.length
 asm:Fr.Val m.aA
 iL:m.Out.length≤k
theorem xO{c:aS}(h:Sd.Ok c):(64≤c.Local∧c.Local≤127)∧64≤c.Remote∧c.Remote≤127:=by
 have:=h.ids; omega
theorem Rq{s:aO}(h:qA s)(hk:s.Kind=20∨s.Kind=6):64≤s.Source∧s.Source≤127:=by
 obtain⟨_,_,_,_,_,h6⟩:=Sg.jI h.1
 rcases h6 with h6 | ⟨h6,_⟩
 ·omega
 ·unfold Sg.fV at h6
  rcases hk with hk | hk
  ·rw[hk]at h6
   simp[Sg.aI,Sg.jU]at h6
   omega
  ·rw[hk]at h6
   simp[Sg.aI,Sg.jU]at h6
   omega
theorem M5{s:aO}(h:qA s)(hk:s.Kind=18):s.Source=0:=by
 obtain⟨_,_,_,h4,_⟩:=Sg.jI h.1
 unfold Sg.fG at h4
 rw[hk]at h4
 simp[Sg.aI]at h4
 exact h4.1.1.1.1.2
theorem MInv.ids{k:Nat}{m:aJ}(h:MInv k m):yt m:=⟨fun c hc=>(xO (h.yL c hc)).1,fun s hs hk=>Rq (h.ask s hs).1 hk⟩
theorem Gu{m:aJ}(hc:yt m){v:Int}(h:dS m v=true):v∈iP.filter (dS m):=by
 rw[List.mem_filter]
 exact⟨(xV v).2 (zL hc h),h⟩
theorem MInv.rW{k:Nat}{m:aJ}(h:MInv k m):m.aj.length≤16:=by
 have hn:(m.aj.map (·.Local)).Nodup:=by
  unfold List.Nodup
  rw[List.pairwise_map]
  exact h.Jq.imp fun h=>by omega
 have:=iT _ (iP.filter (dS m)) hn fun x hx=>by
  rw[List.mem_map]at hx
  obtain⟨c,hc,rfl⟩:=hx
  exact Gu h.ids ((dM m _).2 (.inl ⟨c,hc,rfl⟩))
 rw[List.length_map]at this
 have:=h.cnt
 unfold gG at this
 omega
theorem Hr(l:List aO)(h:∀s∈l,s.Kind=20∨s.Kind=6∨s.Kind=18):l.length=(l.filter fun s=>s.Kind == 20||s.Kind == 6).length+(l.filter fun s=>s.Kind == 18).length:=by
 induction l with
 | nil=>rfl
 | cons s l ih=>
   have h1:=ih fun x hx=>h x (by simp[hx])
   rcases h s (by simp)with hk | hk | hk <;> simp[List.filter_cons,hk] <;> omega
theorem MInv.p8{k:Nat}{m:aJ}(h:MInv k m):m.aB.length≤17:=by
 have h1:=Hr m.aB fun s hs=>(h.ask s hs).2
 have h2:=iT _ (iP.filter (dS m)) h.uf fun x hx=>by
  rw[List.mem_map]at hx
  obtain⟨s,hs,rfl⟩:=hx
  rw[List.mem_filter]at hs
  exact Gu h.ids ((dM m _).2 (.inr ⟨s,hs.1,by simpa using hs.2,rfl⟩))
 rw[List.length_map]at h2
 have h3:=h.cnt
 have h4:=h.vv
 unfold gG at h3
 omega
theorem MInv.sz{k:Nat}{m:aJ}(h:MInv k m)(hk:k≤1000000000):Sz m:=by
 have h1:=h.Ey
 have h2:=h.p8
 have h3:=h.rW
 have h4:=h.iL
 have h5:=h.asm.len
 exact⟨by omega,by omega,by omega,by omega,fun c hc=>by have h:=(h.yL c hc).sm; exact⟨h.out,h.inn⟩,fun c hc=>(h.yL c hc).sm.each,fun f hf=>by have:=(h.out f hf).1; omega,by omega⟩
theorem MInv.more{k n:Nat}{m:aJ}(h:MInv k m)(hn:k≤n):MInv n m:={ h with iL:=Nat.le_trans h.iL hn }
theorem nS{m m':aJ}(h:∀v,dS m' v=true→dS m v=true):gG m'≤gG m:=by
 unfold gG
 refine iT _ _ (pR.filter _) fun x hx=>?_
 rw[List.mem_filter]at hx ⊢
 exact⟨hx.1,h x hx.2⟩
theorem yU{m m':aJ}(w:Int)(h:∀v,dS m' v=true→dS m v=true∨v=w):gG m'≤gG m+1:=by
 unfold gG
 have:=iT (iP.filter (dS m')) (w::iP.filter (dS m)) (pR.filter _) fun x hx=>by
  rw[List.mem_filter]at hx
  rcases h x hx.2 with h1 | rfl
  ·exact List.mem_cons_of_mem _ (by rw[List.mem_filter]; exact⟨hx.1,h1⟩)
  ·exact List.mem_cons_self ..
 rwa [List.length_cons]at this
theorem MInv.qd{k:Nat}{m:aJ}(h:MInv k m){mQ:Int}{b:List Int}(hb:b.length≤4096)(hc:1≤mQ∧mQ≤65535):MInv (k+1) (qd m mQ b):=by
 refine⟨h.Ey,h.Jv,h.next,h.ask,h.uf,h.vv,h.Jq,h.yL,h.tQ,h.cnt,?_,?_,?_,h.asm,?_⟩
 ·intro f hf
  rcases List.mem_append.1 hf with hf | hf
  ·exact h.out f hf
  ·rw[List.mem_singleton]at hf
   subst hf
   exact⟨hb,hc⟩
 ·intro e
  exact absurd (congrArg List.length e) (by simp[V.qd])
 ·intro f r e
  cases ho:m.Out with
  | nil=>
    have h1:=h.oI ho
    show 0≤m.aN∧m.aN<_
    rw[h1]
    omega
  | cons g t=>
    have h1:=h.sent g t ho
    have e':m.Out++[⟨mQ,b⟩]=f::r:=e
    rw[ho,List.cons_append]at e'
    injection e' with e1 _
    subst e1
    exact h1
 ·show(m.Out++[_]).length≤k+1
  have:=h.iL
  simp; omega
theorem MInv.say{k:Nat}{m:aJ}(h:MInv k m)(s:aO):MInv (k+1) (oC m s):=h.qd (by have:=AL s; omega) ⟨by decide,by decide⟩
theorem MInv.tick{k:Nat}{m:aJ}(h:MInv k m):MInv k (mW m):=
 ⟨h.Ey,h.Jv,oo (nG m.aB 255 m.bQ h.next),h.ask,h.uf,h.vv,h.Jq,h.yL,h.tQ,h.cnt,h.out,h.oI,h.sent,h.asm,h.iL⟩
theorem MInv.asked{k:Nat}{m:aJ}(h:MInv k m){s:aO}(hs:qA s)(hk:(s.Kind=20∧dS m s.Source=false∧gG m<16)∨(s.Kind=6∧dH m s.Source=false∧∃c∈m.aj,c.Local=s.Source)∨(s.Kind=18∧m.aB.any (fun s=>s.Kind == 18)=false)):MInv k { m with aB:=m.aB++[s] }:=by
 have hu:∀v,dS { m with aB:=m.aB++[s] } v=true↔dS m v=true∨((s.Kind=20∨s.Kind=6)∧s.Source=v):=fun v=>by
  rw[dM,dM]
  simp only[List.mem_append,List.mem_singleton]
  constructor
  ·rintro(h | ⟨t,ht | rfl,hq⟩)
   ·exact .inl (.inl h)
   ·exact .inl (.inr ⟨t,ht,hq⟩)
   ·exact .inr hq
  ·rintro((h | ⟨t,ht,hq⟩) | hq)
   ·exact .inl h
   ·exact .inr ⟨t,.inl ht,hq⟩
   ·exact .inr ⟨s,.inr rfl,hq⟩
 have hnew:∀t∈m.aB,(t.Kind=20∨t.Kind=6)→(s.Kind=20∨s.Kind=6)→t.Source≠s.Source:=fun t ht htk hsk e=>by
  rcases hk with⟨_,h2,_⟩ | ⟨h1,h2,c,hc,h3⟩ | ⟨h1,_⟩
  ·have:=(dM m s.Source).2 (.inr ⟨t,ht,htk,e⟩)
   rw[h2]at this
   cases this
  ·rcases htk with htk | htk
   ·exact h.tQ c hc t ht htk (by rw[e,h3])
   ·unfold dH at h2
    rw[List.any_eq_false]at h2
    exact h2 t ht (by simp[htk,e])
  ·omega
 refine⟨h.Ey,h.Jv,h.next,?_,?_,?_,h.Jq,h.yL,?_,?_,h.out,h.oI,h.sent,h.asm,h.iL⟩
 ·intro t ht
  rcases List.mem_append.1 ht with ht | ht
  ·exact h.ask t ht
  ·rw[List.mem_singleton]at ht
   subst ht
   refine⟨hs,?_⟩
   rcases hk with⟨h1,_⟩ | ⟨h1,_⟩ | ⟨h1,_⟩
   ·exact .inl h1
   ·exact .inr (.inl h1)
   ·exact .inr (.inr h1)
 ·show(((m.aB++[s]).filter _).map _).Nodup
  rw[List.filter_append,List.map_append,List.nodup_append]
  refine⟨h.uf,?_,?_⟩
  ·cases hq:(s.Kind == 20||s.Kind == 6) <;> simp[List.filter_cons,hq]
  ·intro a ha b hb e
   rw[List.mem_map]at ha hb
   obtain⟨t,ht,rfl⟩:=ha
   obtain⟨u,hu,rfl⟩:=hb
   rw[List.mem_filter]at ht hu
   have:u=s:=by simpa using hu.1
   subst this
   exact hnew t ht.1 (by simpa using ht.2) (by simpa using hu.2) e
 ·show((m.aB++[s]).filter _).length≤1
  rw[List.filter_append,lA]
  have:=h.vv
  by_cases hq:(s.Kind == 18)=true
  ·have hq':s.Kind=18:=by simpa using hq
   rcases hk with⟨h1,_⟩ | ⟨h1,_⟩ | ⟨_,h2⟩
   ·omega
   ·omega
   ·have:m.aB.filter (fun s=>s.Kind == 18)=[]:=by
     rw[List.filter_eq_nil_iff]
     rw[List.any_eq_false]at h2
     exact h2
    rw[this]
    simp[List.filter_cons,hq]
  ·simp[List.filter_cons,hq]
   exact this
 ·intro c hc t ht htk
  rcases List.mem_append.1 ht with ht | ht
  ·exact h.tQ c hc t ht htk
  ·rw[List.mem_singleton]at ht
   subst ht
   intro e
   rcases hk with⟨_,h2,_⟩ | ⟨h1,_⟩ | ⟨h1,_⟩
   ·have:=(dM m t.Source).2 (.inl ⟨c,hc,e.symm⟩)
    rw[h2]at this
    cases this
   ·omega
   ·omega
 ·have h16:=h.cnt
  rcases hk with⟨h1,h2,h3⟩ | ⟨h1,h2,c,hc,h3⟩ | ⟨h1,h2⟩
  ·have:=yU (m:=m) (m':={ m with aB:=m.aB++[s] }) s.Source fun v hv=>by
    rcases(hu v).1 hv with h | ⟨_,h⟩
    ·exact .inl h
    ·exact .inr h.symm
   omega
  ·have:=nS (m:=m) (m':={ m with aB:=m.aB++[s] }) fun v hv=>by
    rcases(hu v).1 hv with h | ⟨_,h⟩
    ·exact h
    ·exact(dM m v).2 (.inl ⟨c,hc,by rw[h3,h]⟩)
   omega
  ·have:=nS (m:=m) (m':={ m with aB:=m.aB++[s] }) fun v hv=>by
    rcases(hu v).1 hv with h | ⟨h,_⟩
    ·exact h
    ·omega
   omega
theorem MInv.yO{k:Nat}{m:aJ}(h:MInv k m){s:aO}(hs:qA (iD s (vI m)))(hk:(s.Kind=20∧dS m s.Source=false∧gG m<16)∨(s.Kind=6∧dH m s.Source=false∧∃c∈m.aj,c.Local=s.Source)∨(s.Kind=18∧m.aB.any (fun s=>s.Kind == 18)=false)):MInv (k+1) (yO m s):=
 (h.tick.say (iD s (vI m))).asked hs hk
theorem vH{k:Nat}{m:aJ}(h:MInv k m):1≤vI m∧vI m≤255:=nG m.aB 255 m.bQ h.next
theorem M9{id psm src xk mps cr:Int}(hi:1≤id∧id≤255)(hp:1≤psm∧psm≤65535)(hs:64≤src∧src≤127)(h1:iy xk=true)(h2:iy mps=true)(h3:countB cr=true):qA ⟨20,id,psm,src,0,xk,mps,cr,0,zu⟩:=by
 refine⟨?_,by simp only; omega,by simp only; omega⟩
 unfold iy at h1 h2
 unfold countB at h3
 simp only[Bool.and_eq_true,decide_eq_true_eq]at h1 h2 h3
 unfold Sg.qG
 rw[if_neg (by simp[Sg.aI]),if_neg (by simp; omega),if_neg (by simp[Sg.fG,Sg.aI,Sg.wo,zu]),if_neg (by simp[Sg.iJ,Sg.aI]),if_neg (by simp),if_neg (by simp[Sg.aI]; omega),if_neg (by simp[Sg.fV,Sg.aI,Sg.mQ,Sg.Nb]; omega),if_neg (by simp[Sg.aI])]
theorem Gd{id src dst:Int}(hi:1≤id∧id≤255)(hs:64≤src∧src≤127)(hd:64≤dst∧dst≤127)(kd:Int)(hk:kd=6∨kd=7):qA ⟨kd,id,0,src,dst,0,0,0,0,zu⟩:=by
 refine⟨?_,by simp only; omega,by simp only; omega⟩
 unfold Sg.qG
 rcases hk with rfl | rfl
 ·rw[if_neg (by simp[Sg.aI]),if_neg (by simp; omega),if_neg (by simp[Sg.fG,Sg.aI,Sg.wo,zu]),if_neg (by simp[Sg.iJ,Sg.aI]),if_neg (by simp),if_neg (by simp[Sg.aI]),if_neg (by simp[Sg.fV,Sg.aI,Sg.mQ]; omega),if_neg (by simp[Sg.aI])]
 ·rw[if_neg (by simp[Sg.aI]),if_neg (by simp; omega),if_neg (by simp[Sg.fG,Sg.aI,Sg.wo,zu]),if_neg (by simp[Sg.iJ,Sg.aI]),if_neg (by simp),if_neg (by simp[Sg.aI]),if_neg (by simp[Sg.fV,Sg.aI,Sg.mQ]; omega),if_neg (by simp[Sg.aI])]
theorem M7{id:Int}{u:fD}(hi:1≤id∧id≤255)(hu:Sg.jO u=0):qA ⟨18,id,0,0,0,0,0,0,0,u⟩:=by
 refine⟨?_,by simp only; omega,by simp only; omega⟩
 unfold Sg.qG
 rw[if_neg (by simp[Sg.aI]),if_neg (by simp; omega),if_neg (by simp[Sg.fG,Sg.aI]),if_neg (by simp[Sg.iJ,Sg.aI]),if_neg (by simp),if_neg (by simp[Sg.aI]),if_neg (by simp[Sg.fV,Sg.aI]),if_pos (by simp[Sg.aI]),hu]
theorem Gc{id r:Int}(hi:1≤id∧id≤255)(kd:Int)(hk:(kd=19∧(r=0∨r=1))∨(kd=1∧(r=0∨r=2))):qA ⟨kd,id,0,0,0,0,0,0,r,zu⟩:=by
 refine⟨?_,by simp only; omega,by simp only; omega⟩
 unfold Sg.qG
 rcases hk with⟨rfl,h⟩ | ⟨rfl,h⟩
 ·rw[if_neg (by simp[Sg.aI]),if_neg (by simp; omega),if_neg (by simp[Sg.fG,Sg.aI,Sg.wo,zu]),if_neg (by simp[Sg.iJ,Sg.aI]; omega),if_neg (by simp),if_neg (by simp[Sg.aI]),if_neg (by simp[Sg.fV,Sg.aI]),if_neg (by simp[Sg.aI])]
 ·rw[if_neg (by simp[Sg.aI]),if_neg (by simp; omega),if_neg (by simp[Sg.fG,Sg.aI,Sg.wo,zu]),if_neg (by simp[Sg.iJ,Sg.aI]; omega),if_neg (by simp),if_neg (by simp[Sg.aI]),if_neg (by simp[Sg.fV,Sg.aI]),if_neg (by simp[Sg.aI])]
end V
end Go.Proofs.YtbgfhaahhdnogaaGreat

namespace Go.Proofs.YtbgfhaahhdnogaaGreat
namespace V
theorem Vi:5000<FF∧100000<FF∧1000<FF:=by decide
theorem jm(m:aJ)(n:Int):(yH m n = -1∧m.aj.any (fun c=>c.Local == n)=false)∨∃(i:Nat) (c:aS),yH m n=(i:Int)∧m.aj[i]? = some c∧c.Local=n:=by
 rcases pK (fun c:aS=>c.Local == n) m.aj with h | ⟨i,c,h1,h2,h3,_⟩
 ·exact .inl h
 ·exact .inr ⟨i,c,h1,h2,by simpa using h3⟩
theorem zi(m:aJ)(n:Int):(Ig m n = -1∧m.aj.any (fun c=>c.Remote == n)=false)∨∃(i:Nat) (c:aS),Ig m n=(i:Int)∧m.aj[i]? = some c∧c.Remote=n:=by
 rcases pK (fun c:aS=>c.Remote == n) m.aj with h | ⟨i,c,h1,h2,h3,_⟩
 ·exact .inl h
 ·exact .inr ⟨i,c,h1,h2,by simpa using h3⟩
theorem MInv.chans{k:Nat}{m:aJ}(h:MInv k m){l:List aS}(hl:l.map (·.Local)=m.aj.map (·.Local))(hok:∀c∈l,Sd.Ok c):MInv k { m with aj:=l }:=by
 have hm:∀v,(∃c∈l,c.Local=v)↔∃c∈m.aj,c.Local=v:=fun v=>by
  have h1:v∈l.map (·.Local)↔v∈m.aj.map (·.Local):=by rw[hl]
  simpa only[List.mem_map]using h1
 refine⟨h.Ey,h.Jv,h.next,h.ask,h.uf,h.vv,?_,hok,?_,?_,h.out,h.oI,h.sent,h.asm,h.iL⟩
 ·have h1:=h.Jq
  rw[← List.pairwise_map (f:=fun c:aS=>c.Local) (R:=(· < ·))]at h1
  have h2:(l.map (·.Local)).Pairwise (· < ·):=by rw[hl]; exact h1
  rwa [List.pairwise_map]at h2
 ·intro c hc s hs hk
  obtain⟨c',hc',he⟩:=(hm c.Local).1 ⟨c,hc,rfl⟩
  rw[← he]
  exact h.tQ c' hc' s hs hk
 ·refine Nat.le_trans (nS fun v hv=>?_) h.cnt
  rw[dM]at hv ⊢
  rcases hv with hv | hv
  ·exact .inl ((hm v).1 hv)
  ·exact .inr hv
theorem map_set{l:List aS}{i:Nat}{c c':aS}(hc:l[i]? = some c)(he:c'.Local=c.Local):(l.set i c').map (·.Local)=l.map (·.Local):=by
 apply List.ext_getElem?
 intro j
 rw[List.getElem?_map,List.getElem?_map,List.getElem?_set]
 by_cases hj:i=j
 ·subst hj
  have hlt:=(gS.1 hc).1
  rw[if_pos rfl,if_pos hlt,hc]
  simp[he]
 ·rw[if_neg hj]
theorem MInv.put{k:Nat}{m:aJ}(h:MInv k m){i:Nat}{c c':aS}(hc:m.aj[i]? = some c)(hok:Sd.Ok c')(he:c'.Local=c.Local):MInv k (gy m i c'):=
 h.chans (map_set hc he) fun d hd=>by
  rcases List.mem_or_eq_of_mem_set hd with hd | rfl
  ·exact h.yL d hd
  ·exact hok
theorem Gq(x:bG)(n:Int)(h1:x.aD.aj.length≤1000000)(h2:x.aD.aB.length≤1000000):WG FF x n=some (if yH x.aD n<0 then(0,6)else if dH x.aD n=true then(0,9)else(yH x.aD n,0)):=by
 unfold WG
 rw[rH x n h1,bs]
 rcases jm x.aD n with⟨h,_⟩ | ⟨i,c,h,hc,hn⟩
 ·rw[h,if_pos (by decide),if_pos (by decide)]
 ·rw[h,if_neg (df (by omega)),if_neg (by omega),aP hc,bs,jv x c h2,bs,hn]
  by_cases hb:dH x.aD n=true
  ·rw[if_pos hb,if_pos hb]
  ·rw[if_neg hb,if_neg hb]
theorem AX{k:Nat}{m:aJ}(h:MInv k m)(hk:k≤900000000)(psm xk mps cr:Int)(hp:0≤psm∧psm≤65535):∃r,WQ FF m psm xk mps cr=some r∧ZV FF m psm xk mps cr=some r∧MInv (k+1) r.1:=by
 have hal:=h.p8
 have hcl:=h.rW
 have hol:=h.iL
 unfold WQ ZV
 rw[rE FF m ff (h.sz (by omega)),bs,GD ⟨m,[]⟩ (by simp only; omega) (by simp only; omega) h.ids,bs]
 by_cases h0:psm=0
 ·exact⟨(m,0,1),by rw[if_pos (by simpa using h0)],by rw[if_pos (by simpa using h0)],h.more (by omega)⟩
 rw[if_neg (c:=(psm == 0)=true) (by simpa using h0),if_neg (c:=(psm == 0)=true) (by simpa using h0)]
 rw[show qz FF xk=some (iy xk)from rfl,show qz FF mps=some (iy mps)from rfl,show qo FF cr 0 65535=some (countB cr)from rfl,show Qf FF xk=some (iy xk)from rfl,show Qf FF mps=some (iy mps)from rfl,show WB FF cr=some (countB cr)from rfl,Cz m (by omega) (by omega),rQ]
 cases hb1:iy xk with
 | false=>exact⟨(m,0,5),rfl,rfl,h.more (by omega)⟩
 | true=>
 cases hb2:iy mps with
 | false=>exact⟨(m,0,5),rfl,rfl,h.more (by omega)⟩
 | true=>
 cases hb3:countB cr with
 | false=>exact⟨(m,0,5),rfl,rfl,h.more (by omega)⟩
 | true=>
 by_cases hu:gG m<16
 ·by_cases ho:len m.Out≥64
  ·refine⟨(m,0,8),?_,?_,h.more (by omega)⟩
   ·simp only[bs,Bool.not_true,Bool.false_eq_true,if_false,dt hu,dt ho,if_true]
   ·simp only[bs,Bool.not_true,Bool.false_eq_true,if_false,dt hu,dt ho,if_true,Bool.or_true]
  ·obtain⟨v,_,f2,f3,f4,f5⟩:=tN (m:=m) (by omega)
   have hs:qA (iD ⟨20,0,psm,v,0,xk,mps,cr,0,zu⟩ (vI m)):=M9 (vH h) ⟨show 1≤psm by omega,hp.2⟩ ⟨f4,f5⟩ hb1 hb2 hb3
   refine⟨(yO m ⟨20,0,psm,v,0,xk,mps,cr,0,zu⟩,v,0),?_,?_,h.yO hs (.inl ⟨rfl,f3,hu⟩)⟩
   ·simp only[bs,Bool.not_true,Bool.false_eq_true,if_false,dt hu,decide_eq_false ho,if_pos hu,f2]
    have:=FY ⟨m,[]⟩ ⟨20,0,psm,v,0,xk,mps,cr,0,zu⟩ hs h.next (by simp only; omega) (by simp only; omega)
    rw[show(⟨20,0,psm,v,0,xk,mps,cr,0,⟨0,0,0,0,0⟩⟩:aO)=⟨20,0,psm,v,0,xk,mps,cr,0,zu⟩from rfl,this]
    rfl
   ·simp only[bs,Bool.not_true,Bool.false_eq_true,if_false,dt hu,decide_eq_false ho,Bool.or_false,f2]
    have:=Al m ⟨20,0,psm,v,0,xk,mps,cr,0,zu⟩ hs h.next (by omega) (by omega)
    rw[show(⟨20,0,psm,v,0,xk,mps,cr,0,⟨0,0,0,0,0⟩⟩:aO)=⟨20,0,psm,v,0,xk,mps,cr,0,zu⟩from rfl,this]
    rfl
 ·refine⟨(m,0,8),?_,?_,h.more (by omega)⟩
  ·simp only[bs,Bool.not_true,Bool.false_eq_true,if_false,decide_eq_false hu,Bool.not_false,if_true]
  ·simp only[bs,Bool.not_true,Bool.false_eq_true,if_false,decide_eq_false hu,Bool.not_false,if_true,Bool.true_or]
theorem MInv.tO{k:Nat}{m:aJ}(h:MInv k m){c:aS}(hc:c∈m.aj):qA (iD ⟨6,0,0,c.Local,c.Remote,0,0,0,0,⟨0,0,0,0,0⟩⟩ (vI m))∧MInv (k+1) (tO m c):=by
 have hi:=xO (h.yL c hc)
 have hs:qA (iD ⟨6,0,0,c.Local,c.Remote,0,0,0,0,⟨0,0,0,0,0⟩⟩ (vI m)):=Gd (vH h) hi.1 hi.2 6 (.inl rfl)
 refine⟨hs,?_⟩
 unfold V.tO
 split
 ·exact h.more (by omega)
 ·rename_i hb
  exact h.yO hs (.inr (.inl ⟨rfl,(Bool.not_eq_true _).mp hb,c,hc,rfl⟩))
theorem u7{k:Nat}{m:aJ}(h:MInv k m)(hk:k≤900000000)(n:Int):∃r,ZU FF m n=some r∧ZT FF m n=some r∧MInv (k+1) r.1:=by
 have hal:=h.p8
 have hcl:=h.rW
 have hol:=h.iL
 unfold ZU ZT
 rw[rE FF m ff (h.sz (by omega)),bs,Gq ⟨m,[]⟩ n (by simp only; omega) (by simp only; omega),bs,jW m n (by omega),bs,rQ,iA m n (by omega)]
 rcases jm m n with⟨hl,_⟩ | ⟨i,c,hl,hc,hn⟩
 ·rw[hl]
  exact⟨(m,6),rfl,rfl,h.more (by omega)⟩
 ·rw[hl,if_neg (df (show ¬ ((i:Int)<0) by omega)),if_neg (show ¬ ((i:Int)<0) by omega),bs,bs]
  by_cases hb:dH m n=true
  ·rw[if_pos hb,if_pos hb]
   exact⟨(m,9),rfl,rfl,h.more (by omega)⟩
  ·rw[if_neg hb,if_neg hb,if_neg (by simp)]
   by_cases ho:len m.Out≥64
   ·rw[if_pos (dt ho),if_pos (dt ho)]
    exact⟨(m,8),rfl,rfl,h.more (by omega)⟩
   ·obtain⟨hs,hI⟩:=h.tO (List.mem_of_getElem? hc)
    rw[if_neg (df ho),if_neg (df ho),Gi m i c hc hs h.next (by omega) (by omega),Ls ⟨m,[]⟩ i c hc hs h.next (by simp only; omega) (by simp only; omega)]
    exact⟨(tO m c,0),rfl,rfl,hI⟩
theorem Hw{k:Nat}{m:aJ}(h:MInv k m)(hk:k≤900000000)(n:Int)(b:List Int)(hb:b.length≤16384):∃r,WE FF m n b=some r∧ZQ FF m n b=some r∧MInv (k+1) r.1:=by
 have hal:=h.p8
 have hcl:=h.rW
 have hol:=h.iL
 unfold WE ZQ
 rw[rE FF m ff (h.sz (by omega)),bs,Gq ⟨m,[]⟩ n (by simp only; omega) (by simp only; omega),bs,jW m n (by omega),bs,iA m n (by omega)]
 rcases jm m n with⟨hl,_⟩ | ⟨i,c,hl,hc,hn⟩
 ·rw[hl]
  exact⟨(m,6),rfl,rfl,h.more (by omega)⟩
 ·rw[hl,if_neg (df (show ¬ ((i:Int)<0) by omega)),if_neg (show ¬ ((i:Int)<0) by omega),bs]
  by_cases hb':dH m n=true
  ·rw[if_pos hb',if_pos hb']
   exact⟨(m,9),rfl,rfl,h.more (by omega)⟩
  ·rw[if_neg hb',if_neg hb',if_neg (by simp)]
   have hok:=h.yL c (List.mem_of_getElem? hc)
   obtain⟨r,q1,q2,q3,q4,q5⟩:=Sd.EZ FF c b Vi.1 hok.sm hb hok
   simp only[aP hc,bs,q1,q2]
   by_cases he:r.2=0
   ·rw[if_neg (by simpa using he),if_neg (by simpa using he),lX hc,wR m i c r.1 hc (by omega)]
    exact⟨(gy m i r.1,0),rfl,rfl,(h.put hc q3 q4).more (by omega)⟩
   ·rw[if_pos (by simpa using he),if_pos (by simpa using he)]
    exact⟨(m,r.2),rfl,rfl,h.more (by omega)⟩
theorem FM{k:Nat}{m:aJ}(h:MInv k m)(hk:k≤900000000)(n:Int)(b:List Int):∃r,WH FF m n b=some r∧ZP FF m n b=some r∧MInv (k+1) r.1:=by
 have hol:=h.iL
 unfold WH ZP
 rw[rE FF m ff (h.sz (by omega)),bs,rQ]
 by_cases h1:((n != 4)&&(n != 6))=true
 ·rw[if_pos h1,if_pos h1]; exact⟨(m,5),rfl,rfl,h.more (by omega)⟩
 rw[if_neg h1,if_neg h1]
 by_cases h2:len b > 4096
 ·rw[if_pos (dt h2),if_pos (dt h2)]; exact⟨(m,4),rfl,rfl,h.more (by omega)⟩
 rw[if_neg (df h2),if_neg (df h2),bs]
 by_cases h3:len m.Out≥64
 ·rw[if_pos (dt h3),if_pos (dt h3)]; exact⟨(m,8),rfl,rfl,h.more (by omega)⟩
 have hbl:b.length≤4096:=by rw[lN]at h2; omega
 rw[if_neg (df h3),if_neg (df h3),wQ ⟨m,[]⟩ n b (by omega) (by simp only; omega),sV m n b (by omega) (by omega)]
 have hn:n=4∨n=6:=by simp at h1; omega
 exact⟨(qd m n b,0),rfl,rfl,h.qd hbl (by omega)⟩
theorem CP{k:Nat}{m:aJ}(h:MInv k m)(hk:k≤900000000)(u:fD):∃r,ZN FF m u=some r∧ZM FF m u=some r∧MInv (k+1) r.1:=by
 have hal:=h.p8
 have hol:=h.iL
 unfold ZN ZM
 rw[rE FF m ff (h.sz (by omega)),bs,rQ,Uf _ (by simp only; omega),vQ m 18 0 (by omega),Sg.JL FF u (by have:=Vi; omega),Sg.zk]
 by_cases h1:(m.eT != 1)=true
 ·rw[if_pos h1,if_pos h1]; exact⟨(m,9),rfl,rfl,h.more (by omega)⟩
 rw[if_neg h1,if_neg h1]
 simp only[bs]
 by_cases h2:Sg.jO u=0
 ·rw[if_neg (c:=(Sg.jO u != 0)=true) (by simpa using h2),if_neg (c:=(Sg.jO u != 0)=true) (by simpa using h2)]
  have ea:yP m 18 0=m.aB.any fun s=>s.Kind == 18:=by
   unfold yP
   rw[Bool.eq_iff_iff,List.any_eq_true,List.any_eq_true]
   constructor
   ·rintro⟨s,hs,hq⟩
    exact⟨s,hs,by simp at hq; simp[hq.1]⟩
   ·rintro⟨s,hs,hq⟩
    have hk:s.Kind=18:=by simpa using hq
    exact⟨s,hs,by simp[hk,M5 (h.ask s hs).1 hk]⟩
  rw[ea]
  by_cases h3:(m.aB.any fun s=>s.Kind == 18)=true
  ·rw[if_pos h3,if_pos h3]; exact⟨(m,20),rfl,rfl,h.more (by omega)⟩
  rw[if_neg h3,if_neg h3]
  by_cases h4:len m.Out≥64
  ·rw[if_pos (dt h4),if_pos (dt h4)]; exact⟨(m,8),rfl,rfl,h.more (by omega)⟩
  have hs:qA (iD ⟨18,0,0,0,0,0,0,0,0,u⟩ (vI m)):=M7 (vH h) h2
  rw[if_neg (df h4),if_neg (df h4),FY ⟨m,[]⟩ _ hs h.next (by simp only; omega) (by simp only; omega),Al m _ hs h.next (by omega) (by omega)]
  exact⟨(yO m ⟨18,0,0,0,0,0,0,0,0,u⟩,0),rfl,rfl,h.yO hs (.inr (.inr ⟨rfl,(Bool.not_eq_true _).mp h3⟩))⟩
 ·rw[if_pos (c:=(Sg.jO u != 0)=true) (by simpa using h2),if_pos (c:=(Sg.jO u != 0)=true) (by simpa using h2)]
  exact⟨(m,Sg.jO u),rfl,rfl,h.more (by omega)⟩
theorem EY{k:Nat}{m:aJ}(h:MInv k m)(hk:k≤900000000)(id r:Int):∃q,ZL FF m id r=some q∧ZK FF m id r=some q∧MInv (k+1) q.1:=by
 have hol:=h.iL
 unfold ZL ZK
 rw[rE FF m ff (h.sz (by omega)),bs,rQ,show qo FF id 1 255=some (decide (id≥1)&&decide (id≤255))from rfl]
 by_cases h1:(m.eT != 0)=true
 ·rw[if_pos h1,if_pos h1]; exact⟨(m,9),rfl,rfl,h.more (by omega)⟩
 rw[if_neg h1,if_neg h1,bs]
 by_cases h2:(1≤id∧id≤255)∧(r=0∨r=1)
 ·rw[if_neg (by simp; omega),if_neg (by simp; omega),bs]
  by_cases h4:len m.Out≥64
  ·rw[if_pos (dt h4),if_pos (dt h4)]; exact⟨(m,8),rfl,rfl,h.more (by omega)⟩
  have hs:qA ⟨19,id,0,0,0,0,0,0,r,zu⟩:=Gc h2.1 19 (.inl ⟨rfl,h2.2⟩)
  have e1:=lZ ⟨m,[]⟩ _ hs (by simp only; omega)
  have e2:=oW m _ hs (by omega)
  unfold zu at e1 e2
  rw[if_neg (df h4),if_neg (df h4),e1,e2]
  exact⟨(oC m ⟨19,id,0,0,0,0,0,0,r,zu⟩,0),rfl,rfl,h.say _⟩
 ·rw[if_pos (by simp; omega),if_pos (by simp; omega)]
  exact⟨(m,5),rfl,rfl,h.more (by omega)⟩
end V
end Go.Proofs.YtbgfhaahhdnogaaGreat

namespace Go.Proofs.YtbgfhaahhdnogaaGreat
namespace V
def Ii(l:List aS)(fr:List (List (List Int)))(rd:Nat)(m:aJ)(i:Nat):aJ:=match fr[i]?,l[i]? with
 | some f,some c=>(match f[rd]? with
   | some b=>qd m c.Remote b
   | none=>m)
 | _,_=>m
def eB(l:List aS)(fr:List (List (List Int)))(rd:Nat)(m:aJ)(n:Nat):aJ:=(List.range n).foldl (Ii l fr rd) m
def gY(l:List aS)(fr:List (List (List Int)))(m:aJ)(n:Nat):aJ:=(List.range n).foldl (fun m rd=>eB l fr rd m fr.length) m
theorem mZ(l:List aS)(fr:List (List (List Int)))(rd:Nat)(m:aJ)(n:Nat):eB l fr rd m (n+1)=Ii l fr rd (eB l fr rd m n) n:=by
 unfold eB
 rw[List.range_succ,List.foldl_append]
 rfl
theorem l5(l:List aS)(fr:List (List (List Int)))(m:aJ)(n:Nat):gY l fr m (n+1)=eB l fr n (gY l fr m n) fr.length:=by
 unfold gY
 rw[List.range_succ,List.foldl_append]
 rfl
theorem NH{k:Nat}{m:aJ}(h:MInv k m){l:List aS}(hl:∀c∈l,Sd.Ok c){fr:List (List (List Int))}(hf:∀f∈fr,∀b∈f,b.length≤4096)(rd i:Nat):MInv (k+1) (Ii l fr rd m i)∧(Ii l fr rd m i).aj=m.aj:=by
 unfold Ii
 split
 ·rename_i f c h1 h2
  split
  ·rename_i b h3
   have hi:=xO (hl c (List.mem_of_getElem? h2))
   exact⟨h.qd (hf f (List.mem_of_getElem? h1) b (List.mem_of_getElem? h3)) (by omega),rfl⟩
  ·exact⟨h.more (by omega),rfl⟩
 ·exact⟨h.more (by omega),rfl⟩
theorem o7{k:Nat}{m:aJ}(h:MInv k m){l:List aS}(hl:∀c∈l,Sd.Ok c){fr:List (List (List Int))}(hf:∀f∈fr,∀b∈f,b.length≤4096)(rd:Nat):∀n,MInv (k+n) (eB l fr rd m n)∧(eB l fr rd m n).aj=m.aj
 | 0=>⟨h,rfl⟩
 | n+1=>by
   obtain⟨h1,h2⟩:=o7 h hl hf rd n
   rw[mZ]
   obtain⟨h3,h4⟩:=NH h1 hl hf rd n
   exact⟨h3,h4.trans h2⟩
theorem uz{k:Nat}{m:aJ}(h:MInv k m){l:List aS}(hl:∀c∈l,Sd.Ok c){fr:List (List (List Int))}(hf:∀f∈fr,∀b∈f,b.length≤4096):∀n,MInv (k+n * fr.length) (gY l fr m n)∧(gY l fr m n).aj=m.aj
 | 0=>by rw[Nat.zero_mul]; exact⟨h,rfl⟩
 | n+1=>by
   obtain⟨h1,h2⟩:=uz h hl hf n
   rw[l5]
   obtain⟨h3,h4⟩:=o7 h1 hl hf n fr.length
   rw[Nat.succ_mul,← Nat.add_assoc]
   exact⟨h3,h4.trans h2⟩
theorem gather{k:Nat}(m:aJ)(h:MInv k m)(x:bG)(hx:x.aD=m)(hn:m.aj.length≤16)(ha:m.aB.length≤17) :
 ∀(j:Nat) (l:List aS) (fr:List (List (List Int))) (most i F1 F2:Nat),i+j=m.aj.length→l.map (·.Local)=m.aj.map (·.Local)→(∀c∈l,Sd.Ok c)→fr.length=i→most≤100000→(∀f∈fr,f.length≤100000∧∀b∈f,b.length≤4096)→j<F1→j<F2→
 ∃(l':List aS) (fr':List (List (List Int))) (xq:Nat),iter (fun s:List aS×List (List (List Int))×Int×Int=>MK FF x s.1 s.2.1 s.2.2.1 s.2.2.2) F1 (l,fr++List.replicate j [],(most:Int),(i:Int))=some (l',fr',(xq:Int))∧
  iter (fun s:aJ×List (List (List Int))×Int×Int=>MH FF s.1 s.2.1 s.2.2.1 s.2.2.2) F2 ({ m with aj:=l },fr,(most:Int),(i:Int))=some ({ m with aj:=l' },fr',(xq:Int))∧
  l'.map (·.Local)=m.aj.map (·.Local)∧(∀c∈l',Sd.Ok c)∧fr'.length=m.aj.length∧xq≤100000∧∀f∈fr',f.length≤100000∧∀b∈f,b.length≤4096
 | 0,l,fr,most,i,F1,F2,hi,hl,hok,hfl,hm,hf,h1,h2=>by
   have hll:l.length=m.aj.length:=by simpa using congrArg List.length hl
   refine⟨l,fr,most,?_,?_,hl,hok,by omega,hm,hf⟩
   ·obtain⟨G,rfl⟩:∃G,F1=G+1:=⟨F1 - 1,by omega⟩
    refine bE ?_
    show MK FF x l _ (most:Int) (i:Int)=_
    unfold MK
    rw[if_neg (df (by rw[hx,lN]; omega))]
    simp
   ·obtain⟨G,rfl⟩:∃G,F2=G+1:=⟨F2 - 1,by omega⟩
    refine bE ?_
    show MH FF _ fr (most:Int) (i:Int)=_
    unfold MH
    rw[if_neg (df (by rw[lN]; simp only; omega))]
 | j+1,l,fr,most,i,F1,F2,hi,hl,hok,hfl,hm,hf,h1,h2=>by
   have hll:l.length=m.aj.length:=by simpa using congrArg List.length hl
   obtain⟨G1,rfl⟩:∃G,F1=G+1:=⟨F1 - 1,by omega⟩
   obtain⟨G2,rfl⟩:∃G,F2=G+1:=⟨F2 - 1,by omega⟩
   have hx':l[i]? = some l[i]:=gE (by omega)
   generalize l[i]'(by omega)=c at hx'
   have hc:=hok c (List.mem_of_getElem? hx')
   have hrep:∀(q:List (List Int)),(fr++List.replicate (j+1) []).set i q=fr++[q]++List.replicate j []:=fun q=>by
    rw[List.replicate_succ,List.set_append]
    rw[if_neg (by omega),show i - fr.length=0 by omega]
    simp
   have hget:(fr++List.replicate (j+1) [])[i]? = some ([]:List (List Int)):=by
    rw[List.getElem?_append_right (by omega),show i - fr.length=0 by omega]
    simp
   have Yf:∀(q:List (List Int)),(fr++[q]++List.replicate j [])[i]? = some q:=fun q=>by
    rw[List.append_assoc,List.getElem?_append_right (by omega),show i - fr.length=0 by omega]
    simp
   have hcl:dH ({ m with aj:=l }:aJ) c.Local=dH m c.Local:=rfl
   by_cases hb:dH m c.Local=true
   ·have e1:MK FF x l (fr++List.replicate (j+1) []) (most:Int) (i:Int)=some (.next (l,(fr++[[]])++List.replicate j [],(most:Int),((i+1:Nat):Int))):=by
     unfold MK Wj
     rw[if_pos (dt (by rw[hx,lN]; omega)),aP hx',bs,jv _ c (by rw[hx]; simp only; omega),bs]
     rw[show dH ({ x with aD:={ x.aD with aj:=l } }:bG).aD c.Local=dH m c.Local from by rw[← hx]; rfl,if_pos hb,wN i (by omega)]
     rw[List.replicate_succ,List.append_assoc]
     rfl
    have e2:MH FF { m with aj:=l } fr (most:Int) (i:Int)=some (.next ({ m with aj:=l },fr++[[]],(most:Int),((i+1:Nat):Int))):=by
     unfold MH Y6 V4
     rw[if_pos (dt (by rw[lN]; simp only; omega)),aP hx',bs,iA _ _ (by simp only; omega),bs,hcl,hb]
     rw[if_neg (by simp),bL (by simp; omega) (by omega),bs,wN i (by omega)]
     have:imax (most:Int) (len ([]:List (List Int)))=most:=by
      show(if ((0:Nat):Int) > (most:Int)then((0:Nat):Int)else(most:Int))=most
      rw[if_neg (by omega)]
     rw[this]
    obtain⟨l',fr',xq,q⟩:=gather m h x hx hn ha j l (fr++[[]]) most (i+1) G1 G2 (by omega) hl hok (by simp; omega) hm (fun f hf'=>by
     rcases List.mem_append.1 hf' with hf' | hf'
     ·exact hf f hf'
     ·rw[List.mem_singleton]at hf'
      subst hf'
      simp) (by omega) (by omega)
    refine⟨l',fr',xq,?_,?_,q.2.2⟩
    ·rw[bH (s':=(l,(fr++[[]])++List.replicate j [],(most:Int),((i+1:Nat):Int))) e1]; exact q.1
    ·rw[bH (s':=({ m with aj:=l },fr++[[]],(most:Int),((i+1:Nat):Int))) e2]; exact q.2.1
   ·obtain⟨r,q1,q2,q3,q4,q5,q6⟩:=Sd.nD FF c Vi.2.1 hc
    have hmx:imax (most:Int) (len r.2)=((max most r.2.length:Nat):Int):=by unfold imax; rw[lN]; split <;> omega
    have e1:MK FF x l (fr++List.replicate (j+1) []) (most:Int) (i:Int)=some (.next (l.set i r.1,(fr++[r.2])++List.replicate j [],((max most r.2.length:Nat):Int),((i+1:Nat):Int))):=by
     unfold MK q9p Wj
     rw[if_pos (dt (by rw[hx,lN]; omega)),aP hx',bs,jv _ c (by rw[hx]; simp only; omega),bs]
     rw[show dH ({ x with aD:={ x.aD with aj:=l } }:bG).aD c.Local=dH m c.Local from by rw[← hx]; rfl,if_neg hb,q1]
     simp only[bs,lX hx',aP hget,lX hget,hrep,aP (Yf r.2),hmx,wN i (by omega)]
    have hnc:dH m c.Local=false:=by simpa using hb
    have e2:MH FF { m with aj:=l } fr (most:Int) (i:Int)=some (.next ({ m with aj:=l.set i r.1 },fr++[r.2],((max most r.2.length:Nat):Int),((i+1:Nat):Int))):=by
     unfold MH Y6 V4
     rw[if_pos (dt (by rw[lN]; simp only; omega)),aP hx',bs,iA _ _ (by simp only; omega),bs,hcl,hnc]
     rw[if_pos (by simp)]
     simp only[aP hx',bs,q2]
     rw[wR { m with aj:=l } i c r.1 hx' (by simp only; omega),bs,bL (by simp; omega) (by omega),bs,wN i (by omega),hmx]
     rfl
    obtain⟨l',fr',xq,q⟩:=gather m h x hx hn ha j (l.set i r.1) (fr++[r.2]) (max most r.2.length) (i+1) G1 G2 (by omega) ((map_set hx' (by rw[q5])).trans hl) (fun d hd=>by
     rcases List.mem_or_eq_of_mem_set hd with hd | rfl
     ·exact hok d hd
     ·exact q3) (by simp; omega) (by omega) (fun f hf'=>by
     rcases List.mem_append.1 hf' with hf' | hf'
     ·exact hf f hf'
     ·rw[List.mem_singleton]at hf'
      subst hf'
      exact⟨q4,q6⟩) (by omega) (by omega)
    refine⟨l',fr',xq,?_,?_,q.2.2⟩
    ·rw[bH (s':=(l.set i r.1,(fr++[r.2])++List.replicate j [],((max most r.2.length:Nat):Int),((i+1:Nat):Int))) e1]; exact q.1
    ·rw[bH (s':=({ m with aj:=l.set i r.1 },fr++[r.2],((max most r.2.length:Nat):Int),((i+1:Nat):Int))) e2]; exact q.2.1
theorem wI{k:Nat}{m:aJ}(h:MInv k m)(hk:k≤900000000){l:List aS}(hml:m.aj=l){fr:List (List (List Int))}(hlen:fr.length=l.length)(hn:l.length≤16)(hf:∀f∈fr,f.length≤100000∧∀b∈f,b.length≤4096)(x:bG)(hx:x.aD=m)(rd:Nat)(hrd:rd≤100000) :
 iter (fun s:bG×Int=>NP FF fr (rd:Int) s.1 s.2) FF (x,0)=some (wm x (eB l fr rd m fr.length))∧iter (fun s:aJ×Int=>NJ FF fr (rd:Int) s.1 s.2) FF (m,0)=some (eB l fr rd m fr.length):=by
 have hl:∀c∈l,Sd.Ok c:=by rw[← hml]; exact h.yL
 have hf':∀f∈fr,∀b∈f,b.length≤4096:=fun f hq=>(hf f hq).2
 have hinv:=o7 h hl hf' rd
 have at1:∀i,i<fr.length→∃f c,fr[i]? = some f∧l[i]? = some c∧f.length≤100000:=fun i hi=>
  ⟨fr[i],l[i]'(by omega),gE hi,gE (by omega),(hf _ (gM hi)).1⟩
 constructor
 ·have k1:=dF (body:=fun s:bG×Int=>NP FF fr (rd:Int) s.1 s.2) (fun i=>(wm x (eB l fr rd m i),(i:Int))) fr.length (wm x (eB l fr rd m fr.length)) (fun i hi=>by
   obtain⟨f,c,hfi,hci,hfl⟩:=at1 i hi
   obtain⟨hI,hC⟩:=hinv i
   have hol:=hI.iL
   show NP FF fr (rd:Int) (wm x (eB l fr rd m i)) (i:Int)=_
   unfold NP Zk
   rw[if_pos (dt (by rw[lN]; omega)),aP hfi,bs,mZ]
   by_cases hr:rd<f.length
   ·have hb:f[rd]? = some f[rd]:=gE hr
    have hbl:=hf' f (List.mem_of_getElem? hfi) _ (gM hr)
    have e:Ii l fr rd (eB l fr rd m i) i=qd (eB l fr rd m i) c.Remote f[rd]:=by simp only[Ii,hfi,hci,hb]
    have hcc:(wm x (eB l fr rd m i)).aD.aj[i]? = some c:=by
     show(eB l fr rd m i).aj[i]? = _
     rw[hC,hml,hci]
    rw[if_pos (dt (by rw[lN]; omega)),aP hb,bs,aP hcc,bs,wQ _ _ _ (by omega) (by show(eB l fr rd m i).Out.length≤_; omega),bs,wN i (by omega),e]
    rfl
   ·have hb:f[rd]? = none:=List.getElem?_eq_none (by omega)
    have e:Ii l fr rd (eB l fr rd m i) i=eB l fr rd m i:=by simp only[Ii,hfi,hci,hb]
    rw[if_neg (df (by rw[lN]; omega)),wN i (by omega),e]) (by
   show NP FF fr (rd:Int) _ _=_
   unfold NP
   rw[if_neg (df (by rw[lN]; simp))]) FF 0 (by omega) (by rw[eY]; omega)
  have e0:wm x (eB l fr rd m 0)=x:=by
   show wm x m=x
   rw[← hx]; rfl
  rw[e0]at k1
  exact k1
 ·have k1:=dF (body:=fun s:aJ×Int=>NJ FF fr (rd:Int) s.1 s.2) (fun i=>(eB l fr rd m i,(i:Int))) fr.length (eB l fr rd m fr.length) (fun i hi=>by
   obtain⟨f,c,hfi,hci,hfl⟩:=at1 i hi
   obtain⟨hI,hC⟩:=hinv i
   have hol:=hI.iL
   show NJ FF fr (rd:Int) (eB l fr rd m i) (i:Int)=_
   unfold NJ Y7
   rw[if_pos (dt (by rw[lN]; omega)),aP hfi,bs,mZ]
   by_cases hr:rd<f.length
   ·have hb:f[rd]? = some f[rd]:=gE hr
    have hbl:=hf' f (List.mem_of_getElem? hfi) _ (gM hr)
    have e:Ii l fr rd (eB l fr rd m i) i=qd (eB l fr rd m i) c.Remote f[rd]:=by simp only[Ii,hfi,hci,hb]
    have hcc:(eB l fr rd m i).aj[i]? = some c:=by rw[hC,hml,hci]
    rw[if_pos (dt (by rw[lN]; omega)),aP hcc,bs,bs,aP hb,bs,sV _ _ _ (by omega) (by omega),bs,wN i (by omega),e]
   ·have hb:f[rd]? = none:=List.getElem?_eq_none (by omega)
    have e:Ii l fr rd (eB l fr rd m i) i=eB l fr rd m i:=by simp only[Ii,hfi,hci,hb]
    rw[if_neg (df (by rw[lN]; omega)),wN i (by omega),e]) (by
   show NJ FF fr (rd:Int) _ _=_
   unfold NJ
   rw[if_neg (df (by rw[lN]; simp))]) FF 0 (by omega) (by rw[eY]; omega)
  exact k1
theorem AY{k:Nat}{m:aJ}(h:MInv k m)(hk:k≤800000000)(x:bG)(hx:x.aD=m):∃m',q5h FF x=some (wm x m')∧ZH FF m=some m'∧MInv (k+1600000) m':=by
 subst hx
 have hcl:=h.rW
 have hal:=h.p8
 have hol:=h.iL
 unfold q5h ZH
 obtain⟨l,fr,most,g1,g2,g3,g4,g5,g6,g7⟩:=gather x.aD h x rfl hcl hal x.aD.aj.length x.aD.aj [] 0 0 FF FF (by omega) rfl h.yL rfl (by omega) (by simp) (by rw[eY]; omega) (by rw[eY]; omega)
 rw[List.nil_append,show((0:Nat):Int)=0 from rfl]at g1
 rw[show((0:Nat):Int)=0 from rfl]at g2
 rw[lN,xu (by omega) (by omega),bs,g1,bs]
 have eta:({ x.aD with aj:=x.aD.aj }:aJ)=x.aD:=rfl
 rw[eta]at g2
 rw[g2,bs]
 have h2:MInv k { x.aD with aj:=l }:=h.chans g3 g4
 have hll:l.length=x.aD.aj.length:=by simpa using congrArg List.length g3
 have hf':∀f∈fr,∀b∈f,b.length≤4096:=fun f hq=>(g7 f hq).2
 have hinv:=uz h2 g4 hf'
 have hle:∀i,i≤most→k+i * fr.length≤k+1600000:=fun i hi=>by
  have:i * fr.length≤100000 * 16:=Nat.mul_le_mul (by omega) (by omega)
  omega
 refine⟨gY l fr { x.aD with aj:=l } most,?_,?_,(hinv most).1.more (hle most (Nat.le_refl _))⟩
 ·unfold q9o q9m
  have k1:=dF (body:=fun s:bG×Int=>NN FF fr (most:Int) s.1 s.2) (fun i=>(wm x (gY l fr { x.aD with aj:=l } i),(i:Int))) most (wm x (gY l fr { x.aD with aj:=l } most)) (fun i hi=>by
   obtain⟨hI,hC⟩:=hinv i
   have:=hle i (by omega)
   show NN FF fr (most:Int) (wm x (gY l fr { x.aD with aj:=l } i)) (i:Int)=_
   unfold NN q9n
   rw[if_pos (dt (by omega)),(wI (hI.more this) (by omega) (l:=l) hC (by omega) (by omega) g7 _ rfl i (by omega)).1,bs,l5,wN i (by omega)]
   rfl) (by
   show NN FF fr (most:Int) _ _=_
   unfold NN
   rw[if_neg (df (by simp))]) FF 0 (by omega) (by rw[eY]; omega)
  have e0:wm x (gY l fr { x.aD with aj:=l } 0) = { x with aD:={ x.aD with aj:=l } }:=rfl
  rw[e0,show((0:Nat):Int)=0 from rfl]at k1
  show(iter (fun s:bG×Int=>NN FF fr (most:Int) s.1 s.2) FF ({ x with aD:={ x.aD with aj:=l } },0)).bind (fun o=>some o)=_
  rw[k1]
  rfl
 ·unfold qay qaw
  have k1:=dF (body:=fun s:aJ×Int=>Pt FF fr (most:Int) s.1 s.2) (fun i=>(gY l fr { x.aD with aj:=l } i,(i:Int))) most (gY l fr { x.aD with aj:=l } most) (fun i hi=>by
   obtain⟨hI,hC⟩:=hinv i
   have:=hle i (by omega)
   show Pt FF fr (most:Int) (gY l fr { x.aD with aj:=l } i) (i:Int)=_
   unfold Pt qax
   rw[if_pos (dt (by omega)),(wI (hI.more this) (by omega) (l:=l) hC (by omega) (by omega) g7 ⟨_,[]⟩ rfl i (by omega)).2,bs,l5,wN i (by omega)]) (by
   show Pt FF fr (most:Int) _ _=_
   unfold Pt
   rw[if_neg (df (by simp))]) FF 0 (by omega) (by rw[eY]; omega)
  have e0:gY l fr { x.aD with aj:=l } 0 = { x.aD with aj:=l }:=rfl
  rw[e0,show((0:Nat):Int)=0 from rfl]at k1
  rw[k1]
  rfl
end V
end Go.Proofs.YtbgfhaahhdnogaaGreat

namespace Go.Proofs.YtbgfhaahhdnogaaGreat
namespace V
def lim(m:aJ):Int:=if m.Length<27 then 27 else if m.Length > 251 then 251 else m.Length
def toM(m:aJ)(f:eU):Int:=min ((f.Payload.length:Int)+4) (m.aN+lim m)
theorem Oe(m:aJ):27≤lim m∧lim m≤251:=by unfold lim; split <;> (try split) <;> omega
theorem MInv.outs{k:Nat}{m:aJ}(h:MInv k m){o:List eU}{s:Int}(h1:∀f∈o,f∈m.Out)(h2:o.length≤m.Out.length)(h3:o=[]→s=0)(h4:∀f r,o=f::r→0≤s∧s<4+f.Payload.length):MInv k { m with Out:=o,aN:=s }:=
 ⟨h.Ey,h.Jv,h.next,h.ask,h.uf,h.vv,h.Jq,h.yL,h.tQ,h.cnt,fun f hf=>h.out f (h1 f hf),h3,h4,h.asm,Nat.le_trans h2 h.iL⟩
def NY(m:aJ)(f:eU):jL:=⟨if m.aN=0 then 2 else 1,((Fr.bytesOf f).take (toM m f).toNat).drop m.aN.toNat⟩
def uq(m:aJ)(f:eU)(r:List eU):aJ:=if toM m f=(f.Payload.length:Int)+4 then { m with Out:=r,aN:=0 }else { m with aN:=toM m f }
theorem zA{k:Nat}{m:aJ}(h:MInv k m)(hk:k≤900000000):∃r,Wh FF ⟨m,[]⟩=some r∧VZ FF m=some r∧MInv k r.1∧(m.Out=[]→r=(m,⟨0,[]⟩,false))∧∀f t,m.Out=f::t→r=(uq m f t,NY m f,true):=by
 have hol:=h.iL
 unfold Wh VZ
 cases ho:m.Out with
 | nil=>
   rw[if_pos (by simp[len])]
   refine⟨(m,⟨0,[]⟩,false),rfl,rfl,h,fun _=>rfl,fun f t e=>(by cases e)⟩
 | cons f t=>
   have hf:=h.out f (by rw[ho]; simp)
   have hse:=h.sent f t ho
   have hlr:=Oe m
   rw[ho,List.length_cons]at hol
   have hcond:¬ ((len (f::t) == 0)=true):=by simp[len]; omega
   rw[if_neg hcond,if_neg hcond,show idx (f::t) 0=some f from rfl,bs,bs]
   have hFO:Fr.FOk f:=⟨by omega,by omega⟩
   have henc:Fr.enc f=(Fr.bytesOf f,0):=by
    unfold Fr.enc
    rw[if_neg (by omega),if_neg (by omega)]
   rw[Fr.TW hFO,Fr.Nz hFO,henc,bs,bs]
   have hL:len (Fr.bytesOf f)=(f.Payload.length:Int)+4:=by rw[lN,Fr.nQ]; omega
   have a1:imax 0 (bD m.aN ((f.Payload.length:Int)+4))=m.aN:=by unfold imax bD; split <;> split <;> omega
   have a2:imax 27 (bD m.Length 251)=lim m:=by unfold imax bD lim; split <;> split <;> (try split) <;> (try split) <;> omega
   have a3:bD (imax m.Length 27) 251=lim m:=by unfold imax bD lim; split <;> split <;> (try split) <;> (try split) <;> omega
   have a4:aH ((f.Payload.length:Int)+4 - m.aN)=(f.Payload.length:Int)+4 - m.aN:=bJ (by omega) (by omega)
   have a5:bD ((f.Payload.length:Int)+4 - m.aN) (lim m)=toM m f - m.aN:=by unfold bD toM; split <;> omega
   have a6:aH (m.aN+(toM m f - m.aN))=toM m f:=by unfold toM; rw[bJ (by omega) (by omega)]; omega
   have a7:aH (m.aN+lim m)=m.aN+lim m:=bJ (by omega) (by omega)
   have a8:bD ((f.Payload.length:Int)+4) (m.aN+lim m)=toM m f:=by unfold bD toM; split <;> omega
   have hto:m.aN<toM m f∧toM m f≤(f.Payload.length:Int)+4:=by unfold toM; omega
   have hsub:sub (Fr.bytesOf f) m.aN (toM m f)=some (((Fr.bytesOf f).take (toM m f).toNat).drop m.aN.toNat):=by
    have:=gB (Fr.bytesOf f) m.aN.toNat (toM m f).toNat (by omega) (by rw[Fr.nQ]; omega)
    rw[show((m.aN.toNat:Nat):Int)=m.aN by omega,show(((toM m f).toNat:Nat):Int)=toM m f by omega]at this
    exact this
   have hcl:(((Fr.bytesOf f).take (toM m f).toNat).drop m.aN.toNat).length≤10000:=by rw[List.length_drop,List.length_take,Fr.nQ]; omega
   simp only[a1,a2,a3,a4,a5,a6,a7,hL,a8,hsub,bs]
   rw[join_one FF _ (by rw[eY]; omega) (by omega),gZ (by omega) (by omega),bs,bs]
   have hI:MInv k (uq m f t):=by
    unfold uq
    split
    ·exact h.outs (fun g hg=>by rw[ho]; simp[hg]) (by rw[ho]; simp) (fun _=>rfl) (fun g r e=>by omega)
    ·rename_i hne
     refine(h.outs (o:=m.Out) (s:=toM m f) (fun g hg=>hg) (Nat.le_refl _) (fun e=>by rw[ho]at e; cases e) (fun g r e=>?_))
     rw[ho]at e
     injection e with e1 _
     subst e1
     omega
   have hprog:∀ll:Int,Wi FF ⟨m,[]⟩ (Fr.bytesOf f,0) (((Fr.bytesOf f).take (toM m f).toNat).drop m.aN.toNat) ll=some (uq m f t,⟨ll,((Fr.bytesOf f).take (toM m f).toNat).drop m.aN.toNat⟩,true):=fun ll=>by
    unfold Wi Zj q9q uq
    simp only[a1,a2,a4,a5,a6,hL]
    by_cases hq:toM m f=(f.Payload.length:Int)+4
    ·have hs1:sub (f::t) 1 (len (f::t))=some t:=by
      have:=gB (f::t) 1 (f::t).length (by simp) (by simp)
      rw[List.take_length]at this
      exact this
     rw[if_pos (dt (by omega)),if_pos hq,ho,hs1]
     rfl
    ·rw[if_neg (df (by omega)),if_neg hq]
   have href:∀ll:Int,V3 FF m (Fr.bytesOf f,0) (((Fr.bytesOf f).take (toM m f).toNat).drop m.aN.toNat) ll=some (uq m f t,⟨ll,((Fr.bytesOf f).take (toM m f).toNat).drop m.aN.toNat⟩,true):=fun ll=>by
    unfold V3 Y5 qb0 uq
    simp only[a3,a7,hL,a8]
    by_cases hq:toM m f=(f.Payload.length:Int)+4
    ·have hs1:sub (f::t) 1 (len (f::t))=some t:=by
      have:=gB (f::t) 1 (f::t).length (by simp) (by simp)
      rw[List.take_length]at this
      exact this
     rw[if_pos (by simpa using hq),if_pos hq,ho,hs1,bs,gZ (by omega) (by omega)]
     rfl
    ·rw[if_neg (by simpa using hq),if_neg hq]
   refine⟨(uq m f t,NY m f,true),?_,?_,hI,(fun e=>(by cases e)),fun f' t' e=>(by injection e with e1 e2; rw[e1,e2])⟩
   ·unfold NY
    by_cases h0:m.aN=0
    ·rw[if_pos (by simpa using h0),hprog 2,if_pos h0]
    ·rw[if_neg (by simpa using h0),hprog 1,if_neg h0]
   ·unfold NY
    by_cases h0:m.aN=0
    ·rw[if_pos (by simpa using h0),href 2,if_pos h0]
    ·rw[if_neg (by simpa using h0),href 1,if_neg h0]
theorem nD{k:Nat}{m:aJ}(h:MInv k m)(hk:k≤800000000):∃r,q1z FF m=some r∧ZF FF m=some r∧MInv (k+1600000) r.1:=by
 have hol:=h.iL
 unfold q1z ZF
 rw[rE FF m ff (h.sz (by omega)),bs]
 by_cases h0:(len m.Out == 0)=true
 ·obtain⟨m',c1,c2,c3⟩:=AY h hk ⟨m,[]⟩ rfl
  rw[if_pos h0,if_pos h0,c1,c2,bs,bs]
  obtain⟨r,q1,q2,q3,_⟩:=zA c3 (by omega)
  exact⟨r,q1,q2,q3⟩
 ·rw[if_neg h0,if_neg h0]
  obtain⟨r,q1,q2,q3,_⟩:=zA h (by omega)
  exact⟨r,q1,q2,q3.more (by omega)⟩
end V
end Go.Proofs.YtbgfhaahhdnogaaGreat

namespace Go.Proofs.YtbgfhaahhdnogaaGreat
namespace V
def jP(a b:aO):Bool:=(a.ID == b.ID)&&(if a.Kind=20 then((b.Kind == 21)||(b.Kind == 1))else if a.Kind=6 then((b.Kind == 1)||(((b.Kind == 7)&&(b.Source == a.Source))&&(b.aT == a.aT)))else if a.Kind=18 then((b.Kind == 19)||(b.Kind == 1))else false)
theorem Ul(F:Nat)(a b:aO):q5m F a b=some (jP a b):=by
 unfold q5m jP
 by_cases hi:a.ID=b.ID
 ·rw[if_neg (by simp[hi])]
  by_cases h1:a.Kind=20
  ·simp[h1,hi]
  ·by_cases h2:a.Kind=6
   ·simp[h2,hi]
   ·by_cases h3:a.Kind=18
    ·simp[h3,hi]
    ·simp[h1,h2,h3]
 ·rw[if_pos (by simpa using hi)]
  simp[hi]
theorem zl(F:Nat)(a b:aO):Zw F a b=some (jP a b):=by
 unfold Zw jP
 by_cases hi:a.ID=b.ID
 ·rw[if_neg (by simp[hi])]
  by_cases hb:b.Kind=1
  ·by_cases h1:a.Kind=20
   ·simp[h1,hi,hb]
   ·by_cases h2:a.Kind=6
    ·simp[h2,hi,hb]
    ·by_cases h3:a.Kind=18
     ·simp[h3,hi,hb]
     ·simp[h1,h2,h3,hb]
  ·by_cases h1:a.Kind=20
   ·simp[h1,hi,hb]
   ·by_cases h2:a.Kind=6
    ·simp[h2,hi,hb]
    ·by_cases h3:a.Kind=18
     ·simp[h3,hi,hb]
     ·simp[h1,h2,h3,hb]
 ·rw[if_pos (by simpa using hi)]
  simp[hi]
def zs:aO:=⟨0,0,0,0,0,0,0,0,0,⟨0,0,0,0,0⟩⟩
def qC{α:Type}(l:List α)(i:Nat):List α:=l.take i++l.drop (i+1)
theorem Aj{α:Type}(l:List α)(i:Nat):(qC l i).Sublist l:=by
 unfold qC
 rw[← List.eraseIdx_eq_take_drop_succ]
 exact List.eraseIdx_sublist l i
theorem EK(m:aJ)(s:aO)(hl:m.aB.length≤1000) :
 (Qg FF ⟨m,[]⟩ s=some (zs,false,⟨m,[]⟩)∧UO FF m s=some (m,zs,false))∨
 ∃(i:Nat) (r:aO),m.aB[i]? = some r∧jP r s=true∧Qg FF ⟨m,[]⟩ s=some (r,true,⟨{ m with aB:=qC m.aB i },[]⟩)∧UO FF m s=some ({ m with aB:=qC m.aB i },r,true):=by
 have hdel:∀(i:Nat) (r:aO),m.aB[i]? = some r→Wp FF m.aB (i:Int) (aH ((i:Int)+1))=some (qC m.aB i):=fun i r hr=>by
  have hlt:=(gS.1 hr).1
  unfold Wp qC
  rw[wN i (by omega),if_pos (by omega)]
  rfl
 have k1:=jq (F:=FF) (body:=fun q:aO×Int=>PO FF m.aB q.1 q.2) (l:=m.aB) (p:=fun r=>jP r s) (c:=s) (g:=fun i=>(i,s)) (fun i x hx=>by
  have hlt:=(gS.1 hx).1
  show PO FF m.aB _ _=_
  unfold PO q7w
  rw[if_pos (by simp[len]; omega),aP hx]
  simp only[bs,Ul,wN i (by omega)]
  split <;> rfl) (by
  show PO FF m.aB _ _=_
  unfold PO
  rw[if_neg (by simp[len])]) (by rw[eY]; omega)
 have k1':q5n FF m.aB s=some (fidx (fun r=>jP r s) m.aB,s):=by
  unfold q5n fidx
  rw[k1]
  cases m.aB.findIdx? (fun r=>jP r s) <;> rfl
 have hst:∀(i:Nat) (r:aO),m.aB[i]? = some r→jP r s=true→MG FF m s (i:Int)=some (.done (.inr ({ m with aB:=qC m.aB i },r,true))):=fun i r hr hp=>by
  have hlt:=(gS.1 hr).1
  have s1:sub m.aB 0 (i:Int)=some (m.aB.take i):=by
   have:=gB m.aB 0 i (by omega) (by omega)
   rw[show((0:Nat):Int)=0 from rfl]at this
   rw[this]
   simp
  have s2:sub m.aB (aH ((i:Int)+1)) (len m.aB)=some (m.aB.drop (i+1)):=by
   have:=gB m.aB (i+1) m.aB.length (by omega) (by omega)
   rw[List.take_length]at this
   rw[wN i (by omega)]
   exact this
  unfold MG Y1 qb6 qb5
  rw[if_pos (dt (by rw[lN]; omega)),aP hr,bs,zl,bs,if_pos hp]
  have hlen:(m.aB.take i).length+(m.aB.drop (i+1)).length≤1000:=by rw[List.length_take,List.length_drop]; omega
  simp only[bs,s1,s2]
  rw[gZ (by omega) (by omega),bs,bL (by omega) (by omega)]
  rfl
 have k2:∀(l:List aO) (k f:Nat),m.aB.drop k=l→k≤m.aB.length→l.length<f→iter (fun q=>MG FF m s q) f (k:Int)=some (match l.findIdx? (fun r=>jP r s)with
  | some i=>.inr ({ m with aB:=qC m.aB (k+i) },(l[i]?).getD zs,true)
  | none=>.inl ()):=by
  intro l
  induction l with
  | nil=>
    intro k f hd hk hf
    have hk2:k=m.aB.length:=by
     have:=congrArg List.length hd
     rw[List.length_drop,List.length_nil]at this
     omega
    cases f with
    | zero=>omega
    | succ f=>
      rw[bE (o:=.inl ()) (by
       show MG FF m s (k:Int)=_
       unfold MG
       rw[if_neg (df (by rw[lN]; omega))])]
      rfl
  | cons r l ih=>
    intro k f hd hk hf
    have hx:m.aB[k]? = some r:=by
     have:=congrArg (fun z:List aO=>z[0]?) hd
     simpa using this
    have hlt:=(gS.1 hx).1
    have hd2:m.aB.drop (k+1)=l:=by
     have:=congrArg List.tail hd
     simpa using this
    cases f with
    | zero=>simp at hf
    | succ f=>
      rw[List.findIdx?_cons]
      by_cases hp:jP r s=true
      ·rw[if_pos hp,bE (o:=.inr ({ m with aB:=qC m.aB k },r,true)) (hst k r hx hp)]
       simp
      ·rw[if_neg hp,bH (s':=((k+1:Nat):Int)) (by
        show MG FF m s (k:Int)=_
        unfold MG Y1
        rw[if_pos (dt (by rw[lN]; omega)),aP hx,bs,zl,bs,if_neg hp,wN k (by omega)]),ih (k+1) f hd2 hlt (by simp at hf; omega)]
       cases l.findIdx? (fun r=>jP r s)with
       | none=>rfl
       | some i=>
         simp only[Option.map_some,List.getElem?_cons_succ]
         rw[show k+1+i=k+(i+1) by omega]
 have k3:=k2 m.aB 0 FF (by simp) (by omega) (by rw[eY]; omega)
 rw[show((0:Nat):Int)=0 from rfl]at k3
 unfold Qg UO
 rw[k1',k3,bs,bs]
 cases hq:m.aB.findIdx? (fun r=>jP r s)with
 | none=>
   have:fidx (fun r=>jP r s) m.aB = -1:=by unfold fidx; rw[hq]
   rw[this]
   exact .inl ⟨rfl,rfl⟩
 | some i=>
   have he:fidx (fun r=>jP r s) m.aB=(i:Int):=by unfold fidx; rw[hq]
   rw[List.findIdx?_eq_some_iff_getElem]at hq
   obtain⟨h1,h2,_⟩:=hq
   have hx:m.aB[i]? = some m.aB[i]:=gE h1
   refine .inr ⟨i,m.aB[i],hx,h2,?_,?_⟩
   ·rw[he,if_neg (df (by simp only; omega))]
    simp only[aP hx,bs,hdel i _ hx]
   ·simp only[hx,Option.getD_some,Nat.zero_add]
def lJ(c:aS):List aS→List aS
 | []=>[c]
 | d::l=>if d.Local<c.Local then d::lJ c l else c::d::l
def tT(c:aS):List aS→Nat
 | []=>0
 | d::l=>if d.Local<c.Local then tT c l+1 else 0
theorem GU(c:aS):∀l,tT c l≤l.length
 | []=>Nat.le_refl _
 | d::l=>by
   have:=GU c l
   unfold tT
   split
   ·rw[List.length_cons]; omega
   ·omega
theorem Dl(c:aS):∀l,l.take (tT c l)++[c]++l.drop (tT c l)=lJ c l
 | []=>rfl
 | d::l=>by
   unfold tT lJ
   split
   ·rw[List.take_succ_cons,List.drop_succ_cons,List.cons_append,List.cons_append,Dl c l]
   ·rfl
theorem nJ(c:aS):∀(l:List aS) (d:aS),d∈lJ c l↔d=c∨d∈l
 | [],d=>by simp[lJ]
 | e::l,d=>by
   unfold lJ
   split
   ·rw[List.mem_cons,nJ c l d,List.mem_cons]
    constructor
    ·rintro(h | h | h)
     ·exact .inr (.inl h)
     ·exact .inl h
     ·exact .inr (.inr h)
    ·rintro(h | h | h)
     ·exact .inr (.inl h)
     ·exact .inl h
     ·exact .inr (.inr h)
   ·rw[List.mem_cons]
theorem Dk(c:aS):∀(l:List aS),l.Pairwise (fun a b=>a.Local<b.Local)→(∀d∈l,d.Local≠c.Local)→(lJ c l).Pairwise (fun a b=>a.Local<b.Local)
 | [],_,_=>by simp[lJ]
 | e::l,h,hn=>by
   rw[List.pairwise_cons]at h
   unfold lJ
   split
   ·rename_i hlt
    rw[List.pairwise_cons]
    refine⟨fun d hd=>?_,Dk c l h.2 fun d hd=>hn d (by simp[hd])⟩
    rcases(nJ c l d).1 hd with rfl | hd
    ·exact hlt
    ·exact h.1 d hd
   ·rename_i hge
    have he:=hn e (by simp)
    rw[List.pairwise_cons]
    refine⟨fun d hd=>?_,by rw[List.pairwise_cons]; exact h⟩
    rcases List.mem_cons.1 hd with rfl | hd
    ·omega
    ·have:=h.1 d hd
     omega
theorem at_loop(x:bG)(c:aS)(hn:x.aD.aj.length≤1000):∀(l:List aS) (k f:Nat),x.aD.aj.drop k=l→k≤x.aD.aj.length→l.length<f→iter (fun s=>q22 FF x c s) f (k:Int)=some ((k+tT c l:Nat):Int)
 | [],k,f,hd,hk,hf=>by
   have hk2:k=x.aD.aj.length:=by
    have:=congrArg List.length hd
    rw[List.length_drop,List.length_nil]at this
    omega
   cases f with
   | zero=>omega
   | succ f=>
     refine bE ?_
     show q22 FF x c (k:Int)=_
     unfold q22 UL
     rw[if_neg (df (by rw[lN]; omega)),if_neg (by simp)]
     rfl
 | d::l,k,f,hd,hk,hf=>by
   have hx:x.aD.aj[k]? = some d:=by
    have:=congrArg (fun z:List aS=>z[0]?) hd
    simpa using this
   have hlt:=(gS.1 hx).1
   have hd2:x.aD.aj.drop (k+1)=l:=by
    have:=congrArg List.tail hd
    simpa using this
   cases f with
   | zero=>simp at hf
   | succ f=>
     unfold tT
     by_cases h:d.Local<c.Local
     ·rw[if_pos h,bH (s':=((k+1:Nat):Int)) (by
       show q22 FF x c (k:Int)=_
       unfold q22 UL
       rw[if_pos (dt (by rw[lN]; omega)),aP hx,bs,if_pos (dt h),wN k (by omega)]),at_loop x c hn l (k+1) f hd2 hlt (by simp at hf; omega),show k+1+tT c l=k+(tT c l+1) by omega]
     ·rw[if_neg h]
      refine bE ?_
      show q22 FF x c (k:Int)=_
      unfold q22 UL
      rw[if_pos (dt (by rw[lN]; omega)),aP hx,bs,if_neg (df h)]
      rfl
theorem Mj(x:bG)(c:aS)(hn:x.aD.aj.length≤1000)(he:x.events.length≤1000):WJ FF x c=some ⟨{ x.aD with aj:=lJ { c with Want:=-1 } x.aD.aj },x.events++[⟨2,c.Local,[],0,zu,0⟩]⟩:=by
 unfold WJ
 have k:=at_loop x c hn x.aD.aj 0 FF (by simp) (by omega) (by rw[eY]; omega)
 rw[show((0:Nat):Int)=0 from rfl,Nat.zero_add]at k
 rw[k,bs]
 unfold qa2 q5w
 have hle:=GU c x.aD.aj
 have hcc:∀l,tT c l=tT { c with Want:=-1 } l:=by
  intro l
  induction l with
  | nil=>rfl
  | cons d l ih=>unfold tT; rw[ih]
 rw[if_pos (by refine⟨by omega,by omega,rfl,by omega⟩),bs,Int.toNat_natCast,hcc,Dl]
 unfold qa1 qa0
 rw[nV _ _ (by simp only; omega)]
 rfl
def Dj(c:aS):List aS→List aS
 | []=>[c]
 | d::l=>if d.Local > c.Local then c::d::l else d::Dj c l
theorem Gz(c:aS):∀(l:List aS),(∀d∈l,d.Local≠c.Local)→Dj c l=lJ c l
 | [],_=>rfl
 | d::l,h=>by
   have hd:=h d (by simp)
   have ih:=Gz c l fun e he=>h e (by simp[he])
   unfold Dj lJ
   by_cases h1:d.Local > c.Local
   ·rw[if_pos h1,if_neg (by omega)]
   ·rw[if_neg h1,if_pos (by omega),ih]
theorem zC(m:aJ)(c:aS)(hn:m.aj.length≤1000):∀(l:List aS) (acc:List aS) (k f:Nat),m.aj.drop k=l→k≤m.aj.length→acc.length≤2000 - l.length→l.length≤1000→l.length<f→iter (fun s:List aS×Bool×Int=>qr FF m c s.1 s.2.1 s.2.2) f (acc,true,(k:Int))=some (acc++l,true)
 | [],acc,k,f,hd,hk,_,_,hf=>by
   have hk2:k=m.aj.length:=by
    have:=congrArg List.length hd
    rw[List.length_drop,List.length_nil]at this
    omega
   cases f with
   | zero=>omega
   | succ f=>
     rw[bE (o:=(acc,true)) (by
      show qr FF m c acc true (k:Int)=_
      unfold qr
      rw[if_neg (df (by rw[lN]; omega))]),List.append_nil]
 | d::l,acc,k,f,hd,hk,ha,hl,hf=>by
   have hx:m.aj[k]? = some d:=by
    have:=congrArg (fun z:List aS=>z[0]?) hd
    simpa using this
   have hlt:=(gS.1 hx).1
   have hd2:m.aj.drop (k+1)=l:=by
    have:=congrArg List.tail hd
    simpa using this
   rw[List.length_cons]at ha hl
   cases f with
   | zero=>omega
   | succ f=>
     rw[bH (s':=(acc++[d],true,((k+1:Nat):Int))) (by
      show qr FF m c acc true (k:Int)=_
      unfold qr UH UJ
      rw[if_pos (dt (by rw[lN]; omega)),if_neg (by simp),if_neg (by simp),aP hx,bs,bL (by simp; omega) (by omega),bs,wN k (by omega)]),zC m c hn l (acc++[d]) (k+1) f hd2 hlt (by simp; omega) (by omega) (by simp at hf; omega),List.append_assoc]
     rfl
theorem zD(m:aJ)(c:aS)(hn:m.aj.length≤1000):∀(l:List aS) (acc:List aS) (k f:Nat),m.aj.drop k=l→k≤m.aj.length→acc.length≤1000 - l.length→l.length≤1000→l.length<f→
 ∃z,iter (fun s:List aS×Bool×Int=>qr FF m c s.1 s.2.1 s.2.2) f (acc,false,(k:Int))=some z∧VU FF m c z.1 z.2=some { m with aj:=acc++Dj c l }
 | [],acc,k,f,hd,hk,ha,_,hf=>by
   have hk2:k=m.aj.length:=by
    have:=congrArg List.length hd
    rw[List.length_drop,List.length_nil]at this
    omega
   cases f with
   | zero=>omega
   | succ f=>
     refine⟨(acc,false),bE (by
      show qr FF m c acc false (k:Int)=_
      unfold qr
      rw[if_neg (df (by rw[lN]; omega))]),?_⟩
     unfold VU VW
     rw[if_pos (by simp),bL (by simp; omega) (by omega)]
     rfl
 | d::l,acc,k,f,hd,hk,ha,hl,hf=>by
   have hx:m.aj[k]? = some d:=by
    have:=congrArg (fun z:List aS=>z[0]?) hd
    simpa using this
   have hlt:=(gS.1 hx).1
   have hd2:m.aj.drop (k+1)=l:=by
    have:=congrArg List.tail hd
    simpa using this
   rw[List.length_cons]at ha hl
   cases f with
   | zero=>omega
   | succ f=>
     by_cases h:d.Local > c.Local
     ·have e:Dj c (d::l)=c::d::l:=by unfold Dj; rw[if_pos h]
      refine⟨(acc++[c]++[d]++l,true),?_,?_⟩
      ·rw[bH (s':=(acc++[c]++[d],true,((k+1:Nat):Int))) (by
        show qr FF m c acc false (k:Int)=_
        unfold qr UH UJ
        rw[if_pos (dt (by rw[lN]; omega)),if_pos (by simp),aP hx,bs,if_pos (dt h),bL (by simp; omega) (by omega),bs,bs,bL (by simp; omega) (by omega),bs,wN k (by omega)]),zC m c hn l _ (k+1) f hd2 hlt (by simp; omega) (by omega) (by simp at hf; omega)]
      ·unfold VU VW
       rw[if_neg (by simp),e]
       simp
     ·have e:Dj c (d::l)=d::Dj c l:=by show(if d.Local > c.Local then _ else _)=_; rw[if_neg h]
      obtain⟨z,z1,z2⟩:=zD m c hn l (acc++[d]) (k+1) f hd2 hlt (by simp; omega) (by omega) (by simp at hf; omega)
      refine⟨z,?_,?_⟩
      ·rw[bH (s':=(acc++[d],false,((k+1:Nat):Int))) (by
        show qr FF m c acc false (k:Int)=_
        unfold qr UH UJ
        rw[if_pos (dt (by rw[lN]; omega)),if_pos (by simp),aP hx,bs,if_neg (df h),bs,bL (by simp; omega) (by omega),bs,wN k (by omega)])]
       exact z1
      ·rw[z2,e,List.append_assoc]
       rfl
theorem Cy(m:aJ)(c:aS)(hn:m.aj.length≤1000)(hne:∀d∈m.aj,d.Local≠c.Local):Wt FF m c=some { m with aj:=lJ c m.aj }:=by
 unfold Wt
 obtain⟨z,z1,z2⟩:=zD m c hn m.aj [] 0 FF (by simp) (by omega) (by simp) hn (by rw[eY]; omega)
 rw[show((0:Nat):Int)=0 from rfl]at z1
 rw[z1,bs,z2,Gz c _ hne]
 rfl
theorem zh(x:bG)(i:Nat)(c:aS)(hc:x.aD.aj[i]? = some c)(hn:x.aD.aj.length≤1000)(he:x.events.length≤1000):WM FF x (i:Int)=some ⟨{ x.aD with aj:=qC x.aD.aj i },x.events++[⟨4,c.Local,[],0,zu,0⟩]⟩:=by
 have hlt:=(gS.1 hc).1
 unfold WM q5o
 rw[aP hc,bs,wN i (by omega),if_pos (by omega),bs,nV _ _ (by simp only; omega)]
 rfl
theorem Gf(m:aJ)(i:Nat)(c:aS)(hc:m.aj[i]? = some c)(hn:m.aj.length≤1000):Qe FF m (i:Int)=some { m with aj:=qC m.aj i }:=by
 have hlt:=(gS.1 hc).1
 have s1:sub m.aj 0 (i:Int)=some (m.aj.take i):=by
  have:=gB m.aj 0 i (by omega) (by omega)
  rw[show((0:Nat):Int)=0 from rfl]at this
  rw[this]
  simp
 have s2:sub m.aj (aH ((i:Int)+1)) (len m.aj)=some (m.aj.drop (i+1)):=by
  have:=gB m.aj (i+1) m.aj.length (by omega) (by omega)
  rw[List.take_length]at this
  rw[wN i (by omega)]
  exact this
 have hlen:(m.aj.take i).length+(m.aj.drop (i+1)).length≤1000:=by rw[List.length_take,List.length_drop]; omega
 unfold Qe qb3
 rw[s1,bs,s2,bs,gZ (by omega) (by omega),bs,bL (by omega) (by omega)]
 rfl
theorem MInv.drop{k:Nat}{m:aJ}(h:MInv k m)(i:Nat):MInv k { m with aB:=qC m.aB i }:=by
 have hs:=Aj m.aB i
 have hm:∀s∈qC m.aB i,s∈m.aB:=fun s hq=>hs.subset hq
 refine⟨h.Ey,h.Jv,h.next,fun s hq=>h.ask s (hm s hq),?_,?_,h.Jq,h.yL,fun c hc s hq=>h.tQ c hc s (hm s hq),?_,h.out,h.oI,h.sent,h.asm,h.iL⟩
 ·exact List.Pairwise.sublist ((hs.filter _).map _) h.uf
 ·exact Nat.le_trans (hs.filter _).length_le h.vv
 ·refine Nat.le_trans (nS fun v hv=>?_) h.cnt
  rw[dM]at hv ⊢
  rcases hv with hv | ⟨s,hq,hr⟩
  ·exact .inl hv
  ·exact .inr ⟨s,hm s hq,hr⟩
theorem MInv.shut{k:Nat}{m:aJ}(h:MInv k m)(i:Nat):MInv k { m with aj:=qC m.aj i }:=by
 have hs:=Aj m.aj i
 have hm:∀s∈qC m.aj i,s∈m.aj:=fun s hq=>hs.subset hq
 refine⟨h.Ey,h.Jv,h.next,h.ask,h.uf,h.vv,List.Pairwise.sublist hs h.Jq,fun c hc=>h.yL c (hm c hc),fun c hc=>h.tQ c (hm c hc),?_,h.out,h.oI,h.sent,h.asm,h.iL⟩
 refine Nat.le_trans (nS fun v hv=>?_) h.cnt
 rw[dM]at hv ⊢
 rcases hv with⟨c,hc,hr⟩ | hv
 ·exact .inl ⟨c,hm c hc,hr⟩
 ·exact .inr hv
theorem MInv.add{k:Nat}{m:aJ}(h:MInv k m){c:aS}(hc:Sd.Ok c)(h1:∀d∈m.aj,d.Local≠c.Local)(h2:∀s∈m.aB,s.Kind=20→s.Source≠c.Local)(h3:gG { m with aj:=lJ c m.aj }≤16):MInv k { m with aj:=lJ c m.aj }:=by
 refine⟨h.Ey,h.Jv,h.next,h.ask,h.uf,h.vv,Dk c _ h.Jq h1,fun d hd=>?_,fun d hd=>?_,h3,h.out,h.oI,h.sent,h.asm,h.iL⟩
 ·rcases(nJ c _ d).1 hd with rfl | hd
  ·exact hc
  ·exact h.yL d hd
 ·rcases(nJ c _ d).1 hd with rfl | hd
  ·exact h2
  ·exact h.tQ d hd
theorem F8(m:aJ)(c:aS)(v:Int):dS { m with aj:=lJ c m.aj } v=true↔dS m v=true∨v=c.Local:=by
 rw[dM,dM]
 simp only[nJ]
 constructor
 ·rintro(⟨d,rfl | hd,rfl⟩ | h)
  ·exact .inr rfl
  ·exact .inl (.inl ⟨d,hd,rfl⟩)
  ·exact .inl (.inr h)
 ·rintro((⟨d,hd,rfl⟩ | h) | rfl)
  ·exact .inl ⟨d,.inr hd,rfl⟩
  ·exact .inr h
  ·exact .inl ⟨c,.inl rfl,rfl⟩
theorem JO{k:Nat}{m:aJ}(h:MInv k m){i:Nat}{r:aO}(hr:m.aB[i]? = some r)(hk:r.Kind=20):∀s∈qC m.aB i,(s.Kind=20∨s.Kind=6)→s.Source≠r.Source:=by
 have hlt:=(gS.1 hr).1
 have he:m.aB=m.aB.take i++r::m.aB.drop (i+1):=by
  have h1:m.aB.drop i=r::m.aB.drop (i+1):=by
   rw[List.drop_eq_getElem_cons hlt]
   rw[gE hlt]at hr
   injection hr with hr
   rw[hr]
  rw[← h1,List.take_append_drop]
 have hn:=h.uf
 rw[he,List.filter_append,List.map_append,List.filter_cons,if_pos (by simp[hk]),List.map_cons,List.nodup_append,List.nodup_cons]at hn
 obtain⟨_,⟨n1,_⟩,n2⟩:=hn
 intro s hs hsk e
 have hp:(s.Kind == 20||s.Kind == 6)=true:=by simpa using hsk
 unfold qC at hs
 rcases List.mem_append.1 hs with hs | hs
 ·exact n2 s.Source (List.mem_map.2 ⟨s,List.mem_filter.2 ⟨hs,hp⟩,rfl⟩) r.Source (by simp) e
 ·exact n1 (List.mem_map.2 ⟨s,List.mem_filter.2 ⟨hs,hp⟩,e⟩)
end V
end Go.Proofs.YtbgfhaahhdnogaaGreat

namespace Go.Proofs.YtbgfhaahhdnogaaGreat
namespace V
def Both(k:Nat)(P:Option bG)(R:Option (aJ×List bM)):Prop:=∃r:aJ×List bM,P=some ⟨r.1,r.2⟩∧R=some r∧MInv k r.1∧r.2.length≤1
theorem Both.mk'{k:Nat}{P:Option bG}{R:Option (aJ×List bM)}(m:aJ)(e:List bM)(h1:P=some ⟨m,e⟩)(h2:R=some (m,e))(h3:MInv k m)(h4:e.length≤1:=by simp):Both k P R:=⟨(m,e),h1,h2,h3,h4⟩
def EQ(k c r:Int)(i:Int):bM:=⟨k,c,[],r,zu,i⟩
theorem FT{s:aO}(h:qA s)(hk:s.Kind=20∨(s.Kind=21∧s.Result=0)):(64≤s.Source∧s.Source≤127)∧(23≤s.bA∧s.bA≤4096)∧(23≤s.bC∧s.bC≤4096)∧(0≤s.au∧s.au≤65535)∧(s.Kind=20→s.bg≠0):=by
 have h0:=h.1
 unfold Sg.qG at h0
 split at h0
 ·cases h0
 split at h0
 ·cases h0
 split at h0
 ·cases h0
 split at h0
 ·cases h0
 rcases hk with hk | ⟨hk,hr⟩
 ·rw[if_neg (by rw[hk]; simp)]at h0
  split at h0
  ·cases h0
  rename_i h5
  split at h0
  ·cases h0
  rename_i h6
  unfold Sg.fV at h6
  rw[hk]at h5 h6
  simp[Sg.aI,Sg.jU,Sg.qR]at h5 h6
  refine⟨by omega,by omega,by omega,by omega,fun _=>h5⟩
 ·rw[if_neg (by rw[hr]; simp)]at h0
  split at h0
  ·cases h0
  split at h0
  ·cases h0
  rename_i h6
  unfold Sg.fV at h6
  rw[hk]at h6
  simp[Sg.aI,Sg.jU,Sg.qR]at h6
  refine⟨by omega,by omega,by omega,by omega,fun e=>by omega⟩
theorem Dp{s:aO}(h:qA s):1≤s.ID∧s.ID≤255:=by
 obtain⟨_,h1,h2,_⟩:=Sg.jI h.1
 exact⟨h1,h2⟩
theorem M6{id r:Int}(hi:1≤id∧id≤255)(hr:r=2∨r=4∨r=5∨r=9):qA ⟨21,id,0,0,0,0,0,0,r,zu⟩:=by
 refine⟨?_,by simp only; omega,by simp only; omega⟩
 unfold Sg.qG
 rw[if_neg (by simp[Sg.aI]),if_neg (by simp; omega),if_neg (by simp[Sg.fG,Sg.aI,Sg.wo,zu]),if_neg (by simp[Sg.iJ,Sg.aI]; omega),if_pos (by simp; omega),if_neg (by simp)]
theorem Na{id src xk mps cr:Int}(hi:1≤id∧id≤255)(hs:64≤src∧src≤127)(h1:iy xk=true)(h2:iy mps=true)(h3:countB cr=true):qA ⟨21,id,0,src,0,xk,mps,cr,0,zu⟩:=by
 refine⟨?_,by simp only; omega,by simp only; omega⟩
 unfold iy at h1 h2
 unfold countB at h3
 simp only[Bool.and_eq_true,decide_eq_true_eq]at h1 h2 h3
 unfold Sg.qG
 rw[if_neg (by simp[Sg.aI]),if_neg (by simp; omega),if_neg (by simp[Sg.fG,Sg.aI,Sg.wo,zu]),if_neg (by simp[Sg.iJ,Sg.aI]),if_neg (by simp),if_neg (by simp[Sg.aI]),if_neg (by simp[Sg.fV,Sg.aI,Sg.mQ,Sg.Nb]; omega),if_neg (by simp[Sg.aI])]
theorem M8{id src cr:Int}(hi:1≤id∧id≤255)(hs:64≤src∧src≤127)(h3:1≤cr∧cr≤65535):qA ⟨22,id,0,src,0,0,0,cr,0,zu⟩:=by
 refine⟨?_,by simp only; omega,by simp only; omega⟩
 unfold Sg.qG
 rw[if_neg (by simp[Sg.aI]),if_neg (by simp; omega),if_neg (by simp[Sg.fG,Sg.aI,Sg.wo,zu]),if_neg (by simp[Sg.iJ,Sg.aI]),if_neg (by simp),if_neg (by simp[Sg.aI]),if_neg (by simp[Sg.fV,Sg.aI,Sg.mQ]; omega),if_neg (by simp[Sg.aI])]
theorem OI(l:List dX)(s:aO)(hl:l.length≤1000000):q5u FF l s=some (fidx (fun o=>o.bg == s.bg) l,s):=by
 unfold q5u fidx
 rw[jq (p:=fun o:dX=>o.bg == s.bg) (l:=l) (c:=s) (g:=fun i=>(i,s)) (fun i x hx=>by
  have hlt:=(gS.1 hx).1
  show R9 FF l _ _=_
  unfold R9 q7x
  rw[if_pos (by simp[len]; omega),aP hx]
  simp only[bs,wN i (by omega)]
  split <;> rfl) (by
  show R9 FF l _ _=_
  unfold R9
  rw[if_neg (by simp[len])]) (by rw[eY]; omega)]
 cases l.findIdx? (fun o=>o.bg == s.bg) <;> rfl
theorem SI(m:aJ)(n:Int)(hl:m.ay.length≤1000000):q6z FF m n=some (match m.ay.findIdx? (fun o=>o.bg == n)with
 | some i=>((m.ay[i]?).getD ⟨0,0,0,0,0⟩,true)
 | none=>(⟨0,0,0,0,0⟩,false)):=by
 unfold q6z
 rw[jo (p:=fun o:dX=>o.bg == n) (l:=m.ay) (g:=fun i=>((m.ay[i.toNat]?).getD ⟨0,0,0,0,0⟩,true)) (fun i x hx=>by
  have hlt:=(gS.1 hx).1
  show R6 FF m n _=_
  unfold R6
  rw[if_pos (by simp[len]; omega),aP hx]
  simp only[bs,wN i (by omega),Int.toNat_natCast,hx,Option.getD_some]
  split <;> rfl) (by
  show R6 FF m n _=_
  unfold R6
  rw[if_neg (by simp[len])]) (by rw[eY]; omega)]
 cases m.ay.findIdx? (fun o=>o.bg == n) <;> rfl
theorem Un{k:Nat}{m:aJ}(h:MInv k m){l c:aS}{v:Int}(hc:Sd.Ok c)(hv:c.Local=v)(hf:dS m v=false)(hu:gG m<16):MInv k { m with aj:=lJ c m.aj }:=by
 have hn:∀w,dS m w=true→w≠v:=fun w hw e=>by rw[e,hf]at hw; cases hw
 refine h.add hc (fun d hd e=>?_) (fun s hs hk e=>?_) ?_
 ·exact hn d.Local ((dM m _).2 (.inl ⟨d,hd,rfl⟩)) (by rw[e,hv])
 ·exact hn s.Source ((dM m _).2 (.inr ⟨s,hs,.inl hk,rfl⟩)) (by rw[e,hv])
 ·have:=yU (m:=m) (m':={ m with aj:=lJ c m.aj }) v fun w hw=>by
   rcases(F8 m c w).1 hw with h | h
   ·exact .inl h
   ·exact .inr (by rw[h,hv])
  omega
theorem refuse{k:Nat}{m:aJ}(h:MInv k m)(hk:k≤900000000){s:aO}(hs:qA s){r:Int}(hr:r=2∨r=4∨r=5∨r=9)(x:dX×Bool)(y:Int×Bool):Both (k+1) ((qe FF ⟨m,[]⟩ { s with Kind:=21,bg:=0,Source:=0,aT:=0,bA:=0,bC:=0,au:=0,Result:=r,Update:=⟨0,0,0,0,0⟩ }).bind fun x=>some x) (NI FF m s x y r):=by
 have hol:=h.iL
 have hq:=M6 (Dp hs) hr
 have e1:=lZ ⟨m,[]⟩ _ hq (by simp only; omega)
 have e2:=oW m _ hq (by omega)
 unfold zu at e1 e2
 refine .mk' (oC m ⟨21,s.ID,0,0,0,0,0,0,r,zu⟩) [] ?_ ?_ (h.say _)
 ·show(qe FF ⟨m,[]⟩ ⟨21,s.ID,0,0,0,0,0,0,r,⟨0,0,0,0,0⟩⟩).bind _=_
  rw[e1]; rfl
 ·unfold NI
  rw[if_pos (by simp; omega)]
  show(qf FF m ⟨21,s.ID,0,0,0,0,0,0,r,⟨0,0,0,0,0⟩⟩).bind _=_
  rw[e2]; rfl
theorem LK{k:Nat}{m:aJ}(h:MInv k m)(hk:k≤900000000){s:aO}(hs:qA s)(hkd:s.Kind=20):Both (k+1) (q5y FF ⟨m,[]⟩ s) (Zz FF m s):=by
 have hal:=h.p8
 have hcl:=h.rW
 have hol:=h.iL
 have hll:=h.Ey
 unfold q5y q7z Zz
 rw[OI m.ay s (by omega),bs,GD ⟨m,[]⟩ (by simp only; omega) (by simp only; omega) h.ids,bs,SI m s.bg (by omega),bs,Cz m (by omega) (by omega),bs]
 cases hq:m.ay.findIdx? (fun o=>o.bg == s.bg)with
 | none=>
   have:fidx (fun o:dX=>o.bg == s.bg) m.ay = -1:=by unfold fidx; rw[hq]
   rw[this,if_pos (dt (show(-1:Int)<0 by decide)),bs,if_pos (by decide)]
   exact refuse h hk hs (r:=2) (by omega) (⟨0,0,0,0,0⟩,false) (zP m,decide (gG m<16))
 | some i=>
   have he:fidx (fun o:dX=>o.bg == s.bg) m.ay=(i:Int):=by unfold fidx; rw[hq]
   rw[List.findIdx?_eq_some_iff_getElem]at hq
   obtain⟨h1,h2,_⟩:=hq
   have hx:m.ay[i]? = some m.ay[i]:=gE h1
   have hlm:=h.Jv _ (gM h1)
   rw[he,if_neg (df (by simp only; omega))]
   generalize hL:m.ay[i]=L at *
   simp only[aP hx,hx,bs,Option.getD_some]
   rw[if_neg (c:=(!true)=true) (by simp)]
   unfold q9z
   by_cases hlv:m.Level<L.Level
   ·rw[if_pos (dt hlv),if_pos (dt hlv),bs,if_pos (by decide)]
    exact refuse h hk hs (by omega) _ _
   rw[if_neg (df hlv),if_neg (df hlv)]
   by_cases hu:gG m<16
   ·simp only[dt hu,Bool.not_true,Bool.false_eq_true,if_false,if_pos hu,sZ ⟨m,[]⟩ s.Source (by simp only; omega),oZ m s.Source (by omega),bs]
    rcases zi m s.Source with⟨hr,_⟩ | ⟨j,c,hr,hc,hn⟩
    ·rw[hr,if_neg (df (by omega)),if_neg (df (by omega)),aP hx,bs,bs,if_neg (by simp)]
     obtain⟨v,_,f2,f3,f4,f5⟩:=tN (m:=m) (by omega)
     obtain⟨g1,g2,g3,g4,g5⟩:=FT hs (.inl hkd)
     have hq:=Na (Dp hs) ⟨f4,f5⟩ hlm.1 hlm.2.1 hlm.2.2
     have e1:=lZ ⟨m,[]⟩ _ hq (by simp only; omega)
     have e3:=Mj (wm ⟨m,[]⟩ (oC m ⟨21,s.ID,0,v,0,L.bA,L.bC,L.au,0,zu⟩)) ⟨v,s.Source,s.bg,L.bA,L.bC,s.bA,s.bC,s.au,L.au,L.au,[],0,[],0,false⟩ (show m.aj.length≤1000 by omega) (by simp[wm])
     have hne:∀d∈m.aj,d.Local≠v:=fun d hd e=>by
      have:=(dM m v).2 (.inl ⟨d,hd,e⟩)
      rw[f3]at this
      cases this
     have e4:=Cy m ⟨v,s.Source,s.bg,L.bA,L.bC,s.bA,s.bC,s.au,L.au,L.au,[],0,[],-1,false⟩ (by omega) hne
     have e2:=oW { m with aj:=lJ ⟨v,s.Source,s.bg,L.bA,L.bC,s.bA,s.bC,s.au,L.au,L.au,[],0,[],-1,false⟩ m.aj } _ hq (by simp only; omega)
     have hok:Sd.Ok ⟨v,s.Source,s.bg,L.bA,L.bC,s.bA,s.bC,s.au,L.au,L.au,[],0,[],-1,false⟩:=by
      obtain⟨l1,l2,l3⟩:=hlm
      unfold iy at l1 l2
      unfold countB at l3
      simp only[Bool.and_eq_true,decide_eq_true_eq]at l1 l2 l3
      refine⟨by simp only; omega,g5 hkd,l1,l2,g2,g3,g4,l3,l3,by simp,by simp,by simp[Sd.lastOf],by simp only; omega,by simp⟩
     have hI:=Un h (l:=⟨v,s.Source,s.bg,L.bA,L.bC,s.bA,s.bC,s.au,L.au,L.au,[],0,[],-1,false⟩) hok rfl f3 hu
     refine .mk' (oC { m with aj:=lJ ⟨v,s.Source,s.bg,L.bA,L.bC,s.bA,s.bC,s.au,L.au,L.au,[],0,[],-1,false⟩ m.aj } ⟨21,s.ID,0,v,0,L.bA,L.bC,L.au,0,zu⟩) [EQ 2 v 0 0] ?_ ?_ (hI.say _)
     ·simp only[f2]
      unfold zu at e1 e3
      rw[e1,bs,e3]
      rfl
     ·unfold NI
      rw[if_neg (by simp)]
      simp only[f2]
      rw[e4,bs]
      unfold zu at e2
      rw[e2]
      rfl
    ·rw[hr,if_pos (dt (by omega)),if_pos (dt (by omega)),bs,if_pos (by decide)]
     exact refuse h hk hs (by omega) _ _
   ·simp only[decide_eq_false hu,Bool.not_false,if_true,bs]
    rw[if_pos (by decide)]
    exact refuse h hk hs (by omega) _ _
end V
end Go.Proofs.YtbgfhaahhdnogaaGreat

namespace Go.Proofs.YtbgfhaahhdnogaaGreat
namespace V
theorem wO{k:Nat}{m:aJ}(h:MInv k m)(hk:k≤900000000){id r:Int}(hi:1≤id∧id≤255)(hr:r=0∨r=2):qe FF ⟨m,[]⟩ ⟨1,id,0,0,0,0,0,0,r,⟨0,0,0,0,0⟩⟩=some ⟨oC m ⟨1,id,0,0,0,0,0,0,r,zu⟩,[]⟩∧qf FF m ⟨1,id,0,0,0,0,0,0,r,⟨0,0,0,0,0⟩⟩=some (oC m ⟨1,id,0,0,0,0,0,0,r,zu⟩):=by
 have hol:=h.iL
 have hq:=Gc hi 1 (.inr ⟨rfl,hr⟩)
 have e1:=lZ ⟨m,[]⟩ _ hq (by simp only; omega)
 have e2:=oW m _ hq (by omega)
 exact⟨e1,e2⟩
theorem LC{k:Nat}{m:aJ}(h:MInv k m)(hk:k≤900000000){s:aO}(hs:qA s)(hkd:s.Kind=6):Both (k+1) (q5q FF ⟨m,[]⟩ s) (Zy FF m s):=by
 have hal:=h.p8
 have hcl:=h.rW
 have hol:=h.iL
 obtain⟨r1,r2⟩:=wO h hk (Dp hs) (r:=2) (by omega)
 have X8:∀x:Int,Both (k+1) (Ze FF ⟨m,[]⟩ s x true) (Y3 FF m s x true):=fun x=>by
  refine .mk' (oC m ⟨1,s.ID,0,0,0,0,0,0,2,zu⟩) [] ?_ ?_ (h.say _)
  ·show(qe FF ⟨m,[]⟩ ⟨1,s.ID,0,0,0,0,0,0,2,⟨0,0,0,0,0⟩⟩).bind _=_
   rw[r1]; rfl
  ·show(qf FF m ⟨1,s.ID,0,0,0,0,0,0,2,⟨0,0,0,0,0⟩⟩).bind _=_
   rw[r2]; rfl
 unfold q5q Zy
 rw[rH ⟨m,[]⟩ s.aT (by simp only; omega),jW m s.aT (by omega),bs,bs]
 rcases jm m s.aT with⟨hl,_⟩ | ⟨i,c,hl,hc,hn⟩
 ·rw[hl,if_pos (dt (by omega)),if_pos (dt (by omega))]
  exact X8 _
 ·rw[hl,if_neg (df (by omega)),if_neg (df (by omega)),aP hc,bs,bs]
  by_cases hr:c.Remote=s.Source
  ·rw[show(c.Remote != s.Source)=false by simp[hr]]
   have hcs:=xO (h.yL c (List.mem_of_getElem? hc))
   have hq:=Gd (Dp hs) (src:=s.Source) (dst:=s.aT) (by omega) (by omega) 7 (.inr rfl)
   have e1:=lZ ⟨m,[]⟩ _ hq (by simp only; omega)
   have e3:=zh (wm ⟨m,[]⟩ (oC m ⟨7,s.ID,0,s.Source,s.aT,0,0,0,0,zu⟩)) i c hc (show m.aj.length≤1000 by omega) (by simp[wm])
   have e4:=Gf m i c hc (by omega)
   have e2:=oW { m with aj:=qC m.aj i } _ hq (by simp only; omega)
   refine .mk' (oC { m with aj:=qC m.aj i } ⟨7,s.ID,0,s.Source,s.aT,0,0,0,0,zu⟩) [EQ 4 s.aT 0 0] ?_ ?_ ((h.shut i).say _)
   ·show(qe FF ⟨m,[]⟩ ⟨7,s.ID,0,s.Source,s.aT,0,0,0,0,⟨0,0,0,0,0⟩⟩).bind _=_
    unfold zu at e1 e3
    rw[e1,bs,e3,hn]
    rfl
   ·show(Qe FF m (i:Int)).bind _=_
    rw[e4,bs]
    show(qf FF _ ⟨7,s.ID,0,s.Source,s.aT,0,0,0,0,⟨0,0,0,0,0⟩⟩).bind _=_
    unfold zu at e2
    rw[e2]
    rfl
  ·rw[show(c.Remote != s.Source)=true by simpa using hr]
   exact X8 _
theorem KH{k:Nat}{m:aJ}(h:MInv k m)(hk:k≤900000000){s:aO}(hs:qA s):Both (k+1) (q5s FF ⟨m,[]⟩ s) (if (m.eT == 0)=true then
 some (m,[⟨6,0,[],0,s.Update,s.ID⟩])
 else
  (qf FF m ({ s with Kind:=1,bg:=0,Source:=0,aT:=0,bA:=0,bC:=0,au:=0,Result:=0,Update:=(fD.mk 0 0 0 0 0) })).bind fun JE=>
  some (JE,[])):=by
 obtain⟨r1,r2⟩:=wO h hk (Dp hs) (r:=0) (by omega)
 unfold q5s
 by_cases hr:(m.eT == 0)=true
 ·rw[if_pos hr,if_pos hr,nV _ _ (by simp only[List.length_nil]; omega)]
  exact .mk' m [⟨6,0,[],0,s.Update,s.ID⟩] rfl rfl (h.more (by omega))
 ·rw[if_neg hr,if_neg hr]
  refine .mk' (oC m ⟨1,s.ID,0,0,0,0,0,0,0,zu⟩) [] ?_ ?_ (h.say _)
  ·show(qe FF ⟨m,[]⟩ ⟨1,s.ID,0,0,0,0,0,0,0,⟨0,0,0,0,0⟩⟩).bind _=_
   rw[r1]; rfl
  ·show(qf FF m ⟨1,s.ID,0,0,0,0,0,0,0,⟨0,0,0,0,0⟩⟩).bind _=_
   rw[r2]; rfl
theorem Gl{k:Nat}{m:aJ}(h:MInv k m)(hk:k≤900000000){i:Nat}{c c':aS}(hc:m.aj[i]? = some c)(hok:Sd.Ok c')(he:c'.Local=c.Local)(es:List bM):NV FF ⟨gy m i c',es⟩ (i:Int)=some ⟨tO (gy m i c') c',es⟩∧Sk FF (gy m i c') (i:Int)=some (tO (gy m i c') c')∧MInv (k+1) (tO (gy m i c') c'):=by
 have hI:=h.put hc hok he
 have hal:=hI.p8
 have hol:=hI.iL
 have hlt:=(gS.1 hc).1
 have hx:(gy m i c').aj[i]? = some c':=by unfold gy; simp[List.getElem?_set_self hlt]
 obtain⟨hs,hE⟩:=hI.tO (List.mem_of_getElem? hx)
 exact⟨Ls ⟨gy m i c',es⟩ i c' hx hs hI.next (by simp only; omega) (by simp only; omega),Gi (gy m i c') i c' hx hs hI.next (by omega) (by omega),hE⟩
theorem LG{k:Nat}{m:aJ}(h:MInv k m)(hk:k≤900000000){s:aO}:Both (k+1) (q60 FF ⟨m,[]⟩ s) ((Zx FF m s).bind fun x=>some (x,[])):=by
 have hal:=h.p8
 have hcl:=h.rW
 unfold q60 Zx
 rw[sZ ⟨m,[]⟩ s.Source (by simp only; omega),oZ m s.Source (by omega),bs,bs]
 rcases zi m s.Source with⟨hl,_⟩ | ⟨i,c,hl,hc,hn⟩
 ·rw[hl,if_pos (dt (by omega)),if_pos (dt (by omega))]
  exact .mk' m [] rfl rfl (h.more (by omega))
 ·rw[hl,if_neg (df (by omega)),if_neg (df (by omega))]
  simp only[aP hc,bs,jv ⟨m,[]⟩ c (show m.aB.length≤1000000 by omega),iA m c.Local (by omega)]
  unfold Y2
  by_cases hb:dH m c.Local=true
  ·rw[if_pos hb,if_pos hb]
   exact .mk' m [] rfl rfl (h.more (by omega))
  rw[if_neg hb,if_neg hb]
  have K6:=h.yL c (List.mem_of_getElem? hc)
  obtain⟨r,e1,e2,e3,e4,_⟩:=Sd.Dz FF c s.au Vi.1 K6.sm K6
  obtain⟨p1,p2,p3⟩:=Gl h hk hc e3 e4 []
  unfold qa4 qb4 qa3
  simp only[e1,e2,aP hc,lX hc,bs,wR m i c r.1 hc (by omega)]
  by_cases hz:(r.2 != 0)=true
  ·rw[if_pos hz,if_pos hz]
   refine .mk' _ [] ?_ ?_ p3
   ·show(NV FF ⟨gy m i r.1,[]⟩ (i:Int)).bind _=_
    rw[p1]; rfl
   ·rw[p2]; rfl
  ·rw[if_neg hz,if_neg hz]
   exact .mk' (gy m i r.1) [] rfl rfl ((h.put hc e3 e4).more (by omega))
def qO(m:aJ)(s:aO):Option (aJ×List bM):=(UO FF m s).bind fun fu=>
 if (!fu.2.2)=true then
  some (fu.1,[])
 else
  if (fu.2.1.Kind == 20)=true then
   (q4z FF fu.1 fu.2.1 s).bind fun BN=>
   some (BN.1,BN.2)
  else
   if (fu.2.1.Kind == 6)=true then
    (ql FF fu.1 fu.2.1.Source).bind fun uh=>
    if (decide (uh<0))=true then
     some (fu.1,[])
    else
     (Qe FF fu.1 uh).bind fun vW=>
     Y0 FF fu vW
   else
    if (s.Kind == 1)=true then
     VT FF (s,0) fu 1
    else
     VT FF (s,0) fu s.Result
theorem xU{k:Nat}{m:aJ}(h:MInv k m)(n:Int)(x:aJ×aO×Bool)(hx:x.1=m)(hn:x.2.1.Source=n):Both k (WK FF ⟨m,[]⟩ n) ((ql FF x.1 x.2.1.Source).bind fun uh=>
 if (decide (uh<0))=true then
  some (x.1,[])
 else
  (Qe FF x.1 uh).bind fun vW=>
  Y0 FF x vW):=by
 have hcl:=h.rW
 unfold WK
 rw[hx,hn,rH ⟨m,[]⟩ n (by simp only; omega),jW m n (by omega),bs,bs]
 rcases jm m n with⟨hl,_⟩ | ⟨i,c,hl,hc,hc2⟩
 ·rw[hl,if_neg (df (by omega)),if_pos (dt (by omega))]
  exact .mk' m [] rfl rfl h
 ·rw[hl,if_pos (dt (by omega)),if_neg (df (by omega)),Gf m i c hc (by omega),zh ⟨m,[]⟩ i c hc (by simp only; omega) (by simp),hc2]
  refine .mk' { m with aj:=qC m.aj i } [EQ 4 n 0 0] rfl ?_ (h.shut i)
  rw[← hn]
  rfl
theorem tJ{α:Type}{l:List α}{i:Nat}{x:α}(h:l[i]? = some x):x∈l:=List.mem_of_getElem? h
theorem Hq{k:Nat}{m:aJ}(h:MInv k m)(hk:k≤900000000){s:aO}(hs:qA s) :
 (s.Kind=1→Both k (q5p FF ⟨m,[]⟩ s) (qO m s))∧(s.Kind=7→Both k (q5r FF ⟨m,[]⟩ s) (qO m s))∧(s.Kind=19→Both k (q5t FF ⟨m,[]⟩ s) (qO m s))∧(s.Kind=21→Both k (q5z FF ⟨m,[]⟩ s) (qO m s)):=by
 have hal:=h.p8
 have hcl:=h.rW
 unfold q5p q5r q5t q5z qO
 rcases EK m s (by omega)with⟨h1,h2⟩ | ⟨i,r,hr,ha,h1,h2⟩
 ·simp only[h1,h2,bs]
  exact⟨fun _=>.mk' m [] rfl rfl h,fun _=>.mk' m [] rfl rfl h,fun _=>.mk' m [] rfl rfl h,fun _=>.mk' m [] rfl rfl h⟩
 ·simp only[h1,h2,bs,Bool.not_true,Bool.false_eq_true,if_false,if_true]
  have hI:=h.drop i
  obtain⟨hrs,mP⟩:=h.ask r (tJ hr)
  unfold jP at ha
  have Dq:∀e:bM,qg FF ⟨{ m with aB:=qC m.aB i },[]⟩ e=some ⟨{ m with aB:=qC m.aB i },[e]⟩:=fun e=>nV _ _ (by simp)
  refine⟨fun hq=>?_,fun hq=>?_,fun hq=>?_,fun hq=>?_⟩
  ·rcases mP with mP | mP | mP
   ·rw[if_pos (by simp[mP]),if_pos (by simp[mP]),Dq]
    refine .mk' _ [EQ 5 r.Source 1 0] rfl ?_ hI
    unfold q4z
    rw[if_pos (by simp[hq])]
    rfl
   ·rw[if_neg (by simp[mP]),if_neg (c:=(r.Kind == 20)=true) (by simp[mP]),if_pos (by simp[mP]),if_pos (by simp[mP])]
    have:=xU hI r.Source ({ m with aB:=qC m.aB i },r,true) rfl rfl
    obtain⟨z,z1,z2,z3⟩:=this
    exact⟨z,by rw[z1]; rfl,z2,z3⟩
   ·rw[if_neg (by simp[mP]),if_neg (c:=(r.Kind == 20)=true) (by simp[mP]),if_neg (c:=(r.Kind == 6)=true) (by simp[mP]),if_neg (c:=(r.Kind == 6)=true) (by simp[mP]),if_pos (by simp[mP]),if_pos (by simp[hq]),Dq]
    exact .mk' _ [EQ 7 0 1 s.ID] rfl rfl hI
  ·have hr6:r.Kind=6:=by
    rcases mP with mP | mP | mP
    ·simp[hq,mP]at ha
    ·exact mP
    ·simp[hq,mP]at ha
   have hsr:s.Source=r.Source:=by simp[hq,hr6]at ha; exact ha.2.1
   rw[if_neg (by simp[hr6]),if_pos (by simp[hr6]),hsr]
   obtain⟨z,z1,z2,z3⟩:=xU hI r.Source ({ m with aB:=qC m.aB i },r,true) rfl rfl
   exact⟨z,by rw[z1]; rfl,z2,z3⟩
  ·have X9:r.Kind=18:=by
    rcases mP with mP | mP | mP
    ·simp[hq,mP]at ha
    ·simp[hq,mP]at ha
    ·exact mP
   rw[if_neg (by simp[X9]),if_neg (by simp[X9]),if_neg (by simp[hq]),Dq]
   exact .mk' _ [EQ 7 0 s.Result s.ID] rfl rfl hI
  ·have IW:r.Kind=20:=by
    rcases mP with mP | mP | mP
    ·exact mP
    ·simp[hq,mP]at ha
    ·simp[hq,mP]at ha
   rw[if_pos (c:=(r.Kind == 20)=true) (by simp[IW])]
   unfold q4z
   rw[if_neg (c:=(s.Kind == 1)=true) (by simp[hq])]
   by_cases hz:s.Result=0
   ·rw[if_neg (by simp[hz]),if_pos (c:=(s.Result == 0)=true) (by simp[hz]),sZ ⟨{ m with aB:=qC m.aB i },[]⟩ s.Source (by simp only; omega),oZ { m with aB:=qC m.aB i } s.Source (by simp only; omega)]
    simp only[bs]
    by_cases hrm:Ig { m with aB:=qC m.aB i } s.Source≥0
    ·rw[if_pos (dt hrm),if_pos (dt hrm),Dq]
     exact .mk' _ [EQ 5 r.Source 9 0] rfl rfl hI
    ·rw[if_neg (df hrm),if_neg (df hrm),hz]
     obtain⟨g1,g2,g3,g4,_⟩:=FT hs (.inr ⟨hq,hz⟩)
     obtain⟨k1,k2,k3,k4,k5⟩:=FT hrs (.inl IW)
     have hok:Sd.Ok ⟨r.Source,s.Source,r.bg,r.bA,r.bC,s.bA,s.bC,s.au,r.au,r.au,[],0,[],-1,false⟩:=⟨by simp only; omega,k5 IW,k2,k3,g2,g3,g4,k4,k4,by simp,by simp,by simp[Sd.lastOf],by simp only; omega,by simp⟩
     have hne:∀d∈m.aj,d.Local≠r.Source:=fun d hd e=>h.tQ d hd r (tJ hr) IW e.symm
     have hN:=hI.add hok hne (fun t ht htk=>JO h hr IW t ht (.inl htk)) (by
      refine Nat.le_trans (nS (m:=m) fun v hv=>?_) h.cnt
      rcases(F8 { m with aB:=qC m.aB i } _ v).1 hv with hv | hv
      ·rw[dM]at hv ⊢
       rcases hv with hv | ⟨t,ht,hq⟩
       ·exact .inl hv
       ·exact .inr ⟨t,(Aj m.aB i).subset ht,hq⟩
      ·exact(dM m v).2 (.inr ⟨r,tJ hr,.inl IW,hv.symm⟩))
     have e3:=Mj ⟨{ m with aB:=qC m.aB i },[]⟩ ⟨r.Source,s.Source,r.bg,r.bA,r.bC,s.bA,s.bC,s.au,r.au,r.au,[],0,[],0,false⟩ (show m.aj.length≤1000 by omega) (by simp)
     have e4:=Cy { m with aB:=qC m.aB i } ⟨r.Source,s.Source,r.bg,r.bA,r.bC,s.bA,s.bC,s.au,r.au,r.au,[],0,[],-1,false⟩ (show m.aj.length≤1000 by omega) hne
     refine .mk' _ [EQ 2 r.Source 0 0] ?_ ?_ hN
     ·rw[e3]; rfl
     ·unfold UG
      rw[if_neg (by simp),e4]; rfl
   ·rw[if_pos (by simpa using hz),if_neg (c:=(s.Result == 0)=true) (by simpa using hz),Dq]
    refine .mk' _ [EQ 5 r.Source s.Result 0] rfl ?_ hI
    unfold UG
    rw[bs,if_neg (by simp),if_pos (by simpa using hz)]
    rfl
end V
end Go.Proofs.YtbgfhaahhdnogaaGreat

namespace Go.Proofs.YtbgfhaahhdnogaaGreat
namespace V
theorem Both.some'{k:Nat}{P:Option bG}{R:Option (aJ×List bM)}(h:Both k P R):Both k (P.bind fun x=>some x) (R.bind fun x=>some (x.1,x.2)):=by
 obtain⟨r,h1,h2,h3⟩:=h
 exact⟨r,by rw[h1]; rfl,by rw[h2]; rfl,h3⟩
theorem Both.left{k:Nat}{P:Option bG}{R:Option (aJ×List bM)}(h:Both k P R):Both k (P.bind fun x=>some x) R:=by
 obtain⟨r,h1,h2,h3⟩:=h
 exact⟨r,by rw[h1]; rfl,h2,h3⟩
theorem Both.more{k n:Nat}{P:Option bG}{R:Option (aJ×List bM)}(h:Both k P R)(hn:k≤n):Both n P R:=by
 obtain⟨r,h1,h2,h3,h4⟩:=h
 exact⟨r,h1,h2,h3.more hn,h4⟩
theorem BR{x:Int}(h:Byte x):aH x=x:=by
 have:=h.1
 have:=h.2
 exact bJ (by omega) (by omega)
theorem Ma{k:Nat}{m:aJ}(h:MInv k m)(hk:k≤900000000){b:List Int}(hb:∀x∈b,Byte x)(s:aO)(e:Int)(he:e≠0)(h1:Wq FF b=some (s,e))(h2:Wn FF b=some (s,e)):Both (k+1) (Si FF ⟨m,[]⟩ b) (UN FF m b):=by
 unfold Si UN
 rw[h1,h2,bs,bs]
 have hz:(e != 0)=true:=by simpa using he
 rw[if_pos (c:=((s,e).2 != 0)=true) hz,if_pos (c:=((s,e).2 != 0)=true) hz]
 match b,hb with
 | [],_=>exact .mk' m [] rfl rfl (h.more (by omega))
 | [_],_=>exact .mk' m [] rfl rfl (h.more (by omega))
 | x::y::r,hb=>
   have hx:=hb x (by simp)
   have hy:=hb y (by simp)
   have i0:idx (x::y::r) 0=some x:=dN _ 0
   have i1:idx (x::y::r) 1=some y:=dN _ 1
   have hl:decide (len (x::y::r)≥2)=true:=dt (by simp[len]; omega)
   simp only[hl,if_true,i0,i1,bs,BR hx,BR hy]
   by_cases hy0:y=0
   ·simp only[hy0,bne_self_eq_false,Bool.false_eq_true,if_false,bs]
    exact .mk' m [] rfl rfl (h.more (by omega))
   ·rw[if_pos (c:=(y != 0)=true) (by simpa using hy0),bs,bs]
    by_cases hx1:x=1
    ·rw[if_neg (c:=(x != 1)=true) (by simp[hx1]),if_neg (c:=(x != 1)=true) (by simp[hx1])]
     exact .mk' m [] rfl rfl (h.more (by omega))
    ·rw[if_pos (c:=(x != 1)=true) (by simpa using hx1),if_pos (c:=(x != 1)=true) (by simpa using hx1)]
     have:=hy.1
     have:=hy.2
     obtain⟨r1,r2⟩:=wO h hk (id:=y) (r:=0) (by omega) (by omega)
     rw[r1,r2]
     exact .mk' _ [] rfl rfl (h.say _)
theorem yD{k:Nat}{m:aJ}(h:MInv k m)(hk:k≤900000000){b:List Int}(hb:∀x∈b,Byte x)(hl:b.length≤1000000):Both (k+1) (Si FF ⟨m,[]⟩ b) (UN FF m b):=by
 have d1:=Sg.Nf b hb hl
 have d2:=Sg.NC b hb hl
 rcases Sg.Jc b hb with⟨_,c2⟩ | ⟨c1,c2,c3,_⟩
 ·exact Ma h hk hb _ _ c2 d1 d2
 ·generalize Sg.oL b=z at *
  obtain⟨s,e⟩:=z
  simp only at c1 c2 c3
  subst c1
  have hs:qA s:=⟨c2,c3⟩
  obtain⟨t1,t7,t19,t21⟩:=Hq h hk hs
  have hkn:=(Sg.jI c2).1
  unfold Si UN
  rw[d1,d2,bs,bs,if_neg (c:=((s,(0:Int)).2 != 0)=true) (by simp),if_neg (c:=((s,(0:Int)).2 != 0)=true) (by simp)]
  unfold q4o
  simp only[bs]
  rcases Sg.kinds s.Kind with q | q | q | q | q | q | q | q | q
  ·simp only[q,Int.reduceBEq,Bool.or_true,Bool.true_or,Bool.or_false,Bool.false_or,if_true,if_false,Bool.false_eq_true]
   have:=(t1 q).left.more (n:=k+1) (by omega)
   unfold qO at this
   simpa only[q,Int.reduceBEq,Bool.or_true,Bool.true_or,Bool.or_false,Bool.false_or,if_true,if_false,Bool.false_eq_true]using this
  ·simp only[q,Int.reduceBEq,Bool.or_true,Bool.true_or,Bool.or_false,Bool.false_or,if_true,if_false,Bool.false_eq_true]
   exact(LC h hk hs q).some'
  ·simp only[q,Int.reduceBEq,Bool.or_true,Bool.true_or,Bool.or_false,Bool.false_or,if_true,if_false,Bool.false_eq_true]
   have:=(t7 q).left.more (n:=k+1) (by omega)
   unfold qO at this
   simpa only[q,Int.reduceBEq,Bool.or_true,Bool.true_or,Bool.or_false,Bool.false_or,if_true,if_false,Bool.false_eq_true]using this
  ·simp only[q,Int.reduceBEq,Bool.or_true,Bool.true_or,Bool.or_false,Bool.false_or,if_true,if_false,Bool.false_eq_true]
   exact(KH h hk hs).left
  ·simp only[q,Int.reduceBEq,Bool.or_true,Bool.true_or,Bool.or_false,Bool.false_or,if_true,if_false,Bool.false_eq_true]
   have:=(t19 q).left.more (n:=k+1) (by omega)
   unfold qO at this
   simpa only[q,Int.reduceBEq,Bool.or_true,Bool.true_or,Bool.or_false,Bool.false_or,if_true,if_false,Bool.false_eq_true]using this
  ·simp only[q,Int.reduceBEq,Bool.or_true,Bool.true_or,Bool.or_false,Bool.false_or,if_true,if_false,Bool.false_eq_true]
   exact(LK h hk hs q).some'
  ·simp only[q,Int.reduceBEq,Bool.or_true,Bool.true_or,Bool.or_false,Bool.false_or,if_true,if_false,Bool.false_eq_true]
   have:=(t21 q).left.more (n:=k+1) (by omega)
   unfold qO at this
   simpa only[q,Int.reduceBEq,Bool.or_true,Bool.true_or,Bool.or_false,Bool.false_or,if_true,if_false,Bool.false_eq_true]using this
  ·simp only[q,Int.reduceBEq,Bool.or_true,Bool.true_or,Bool.or_false,Bool.false_or,if_true,if_false,Bool.false_eq_true]
   exact(LG h hk).left
  ·obtain⟨q1,q2,q3,q4,q5,q6,q7,q8⟩:=q
   simp[Sg.aI,q1,q2,q3,q4,q5,q6,q7,q8]at hkn
end V
end Go.Proofs.YtbgfhaahhdnogaaGreat

namespace Go.Proofs.YtbgfhaahhdnogaaGreat
namespace V
theorem half(g:Int)(h:0≤g∧g≤65535):wP .i64 g 2=g / 2:=by
 have:g.tdiv 2=g / 2:=Int.tdiv_eq_ediv_of_nonneg h.1
 unfold wP
 rw[this,wrap_i64]
 exact bJ (by omega) (by omega)
theorem Ho(x:bG)(q:aS×List (List Int)×Int)(hq:q.2.1.length≤1)(he:x.events=[]):iter (fun s:bG×Int=>MI FF q s.1 s.2) FF (x,0)=some { x with events:=q.2.1.map fun d=>⟨3,q.1.Local,d,0,zu,0⟩ }:=by
 have hF:FF=(FF - 2)+1+1:=by rw[eY]
 rw[hF]
 generalize FF - 2=f
 obtain⟨c,l,e⟩:=q
 match l,hq with
 | [],_=>
   rw[bE (o:=x) (by
    show MI (f+1+1) (c,[],e) x 0=_
    unfold MI
    rw[if_neg (df (by simp[len]))])]
   cases x
   simp only at he
   rw[he]
   rfl
 | [d],_=>
   rw[bH (s':=(({ x with events:=[⟨3,c.Local,d,0,zu,0⟩] }:bG),(1:Int))) (by
    show MI (f+1+1) (c,[d],e) x 0=_
    unfold MI
    rw[if_pos (dt (by simp[len])),show idx [d] 0=some d from rfl,bs]
    unfold qg
    rw[he,bL (by simp) (by simp),bs,bs]
    rfl),bE (o:=({ x with events:=[⟨3,c.Local,d,0,zu,0⟩] }:bG)) (by
    show MI (f+1+1) (c,[d],e) { x with events:=[⟨3,c.Local,d,0,zu,0⟩] } 1=_
    unfold MI
    rw[if_neg (df (by simp[len]))])]
   rfl
theorem NW{m:aJ}{i:Nat}{c c':aS}(hc:m.aj[i]? = some c):(gy m i c').aj[i]? = some c':=by
 have hlt:=(gS.1 hc).1
 unfold gy
 simp[List.getElem?_set_self hlt]
theorem Jd{k:Nat}{m:aJ}(h:MInv k m)(hk:k≤900000000){i:Nat}{c:aS}(hc:m.aj[i]? = some c){b:List Int}(hb:∀x∈b,Byte x)(hl:b.length≤65536):Both (k+1) (Wo FF ⟨m,[]⟩ (i:Int) b) (Zr FF m (i:Int) b):=by
 have hal:=h.p8
 have hcl:=h.rW
 have hol:=h.iL
 have K6:=h.yL c (tJ hc)
 obtain⟨q,e1,e2,e3,⟨e4,e5⟩,e6,e7⟩:=Sd.pI FF c b Vi.1 K6.sm hl hb K6
 unfold Wo Zr
 simp only[aP hc,bs,e1,e2,lX hc,wR m i c q.1 hc (by omega)]
 unfold qaa
 have hP:=h.put hc e3 e4
 by_cases hz:(q.2.2 != 0)=true
 ·rw[if_pos hz,if_pos hz]
  obtain⟨p1,p2,p3⟩:=Gl h hk hc e3 e4 []
  refine .mk' _ [] ?_ ?_ p3
  ·show(NV FF ⟨gy m i q.1,[]⟩ (i:Int)).bind _=_
   rw[p1]; rfl
  ·rw[p2]; rfl
 rw[if_neg hz,if_neg hz]
 have hf:=e7 (by simpa using hz)
 have t:=Ho ⟨gy m i q.1,[]⟩ q e6 rfl
 unfold gy at t
 rw[t,bs]
 have hx:=NW (c':=q.1) hc
 have hrx:=e3.rx
 have hgv:=e3.given
 have hev:(if (decide ((len q.2.1) > 0))=true then
  (idx q.2.1 0).bind fun oz=>
  (app 96 ([]:(List bM)) [(bM.mk 3 q.1.Local oz 0 (fD.mk 0 0 0 0 0) 0)]).bind fun KU=>
  R5 FF (i:Int) q (gy m i q.1) KU
  else
   R5 FF (i:Int) q (gy m i q.1) [])=R5 FF (i:Int) q (gy m i q.1) (q.2.1.map fun d=>⟨3,q.1.Local,d,0,zu,0⟩):=by
  match hq:q.2.1,e6 with
  | [],_=>rw[if_neg (df (by simp[len]))]; rfl
  | [d],_=>
    rw[if_pos (dt (by simp[len])),show idx [d] 0=some d from rfl,bs,gZ (by omega) (by simp),bs]
    rfl
 rw[hev]
 have hEl:(q.2.1.map fun d=>(⟨3,q.1.Local,d,0,zu,0⟩:bM)).length≤1:=by rw[List.length_map]; exact e6
 generalize (q.2.1.map fun d=>(⟨3,q.1.Local,d,0,zu,0⟩:bM))=E at hEl ⊢
 unfold qa9 R5
 rw[Sd.dz (x:=q.1.Given - q.1.aC) (by omega) (by omega),Sd.dz (x:=2 * q.1.aC) (by omega) (by omega),half _ hgv]
 by_cases hg:q.1.Given - q.1.aC > 0∧2 * q.1.aC≤q.1.Given
 ·rw[if_neg (c:=decide (q.1.Given - q.1.aC≤0)=true) (df (by omega)),bs,if_neg (c:=decide (q.1.aC > q.1.Given / 2)=true) (df (by omega)),if_pos (c:=(decide (q.1.Given - q.1.aC > 0)&&decide (2 * q.1.aC≤q.1.Given))=true) (by simp; omega)]
  obtain⟨g1,g2,g3⟩:=Sd.Lb FF q.1 (q.1.Given - q.1.aC) Vi.1 e3 hf (by omega) (by omega)
  rw[g1,g2,bs,bs,if_pos (by simp)]
  generalize hc2:({ q.1 with aC:=q.1.aC+(q.1.Given - q.1.aC) }:aS)=c2 at *
  have hl2:c2.Local=q.1.Local:=by rw[← hc2]
  have hP2:=hP.put hx g3 hl2
  have hal2:=hP2.p8
  have hol2:=hP2.iL
  have hids:=xO g3
  have hq:=M8 (vH hP2) (src:=c2.Local) (cr:=q.1.Given - q.1.aC) hids.1 (by omega)
  have s1:=Qk ⟨gy (gy m i q.1) i c2,E⟩ hP2.next (by simp only; omega)
  have s2:=Gh (gy (gy m i q.1) i c2) hP2.next (by omega)
  have s3:=lZ (wm ⟨gy (gy m i q.1) i c2,E⟩ (mW (gy (gy m i q.1) i c2))) _ hq (show(gy (gy m i q.1) i c2).Out.length≤1000000000 by omega)
  have s4:=oW (mW (gy (gy m i q.1) i c2)) _ hq (show(gy (gy m i q.1) i c2).Out.length≤1000000000 by omega)
  have hx':(m.aj.set i q.1)[i]? = some q.1:=hx
  refine .mk' _ E ?_ ?_ (hP2.tick.say ⟨22,vI (gy (gy m i q.1) i c2),0,c2.Local,0,0,0,q.1.Given - q.1.aC,0,zu⟩) hEl
  ·simp only[aP hx',bs,lX hx']
   unfold qa8
   show(UR FF ⟨gy (gy m i q.1) i c2,E⟩).bind _=_
   rw[s1,bs,Sd.dz (x:=q.1.Given - q.1.aC) (by omega) (by omega)]
   unfold zu at s3
   rw[s3]
   rfl
  ·rw[wR (gy m i q.1) i q.1 c2 hx (by have:=hP.rW; omega),bs,s2,bs]
   unfold zu at s4
   rw[s4]
   rfl
 ·rw[if_neg (c:=(decide (q.1.Given - q.1.aC > 0)&&decide (2 * q.1.aC≤q.1.Given))=true) (by simp; omega)]
  refine .mk' (gy m i q.1) E ?_ rfl (hP.more (by omega)) hEl
  by_cases h0:q.1.Given - q.1.aC≤0
  ·rw[if_pos (dt h0),bs,if_pos rfl]
   rfl
  ·rw[if_neg (df h0),bs,if_pos (dt (by omega))]
   rfl
theorem GK{b:List Int}(hb:∀x∈b,Byte x)(e:Int):∀f∈(Fr.Ez b e).2.1,(∀x∈f.Payload,Byte x)∧f.Payload.length≤65531:=by
 unfold Fr.Ez
 split
 ·intro f hf; cases hf
 ·split
  ·intro f hf; cases hf
  ·split
   ·intro f hf; cases hf
   ·split
    ·intro f hf; cases hf
    ·intro f hf
     rename_i h0 h1 h2 h3
     rw[show(Fr.az,[(⟨(Fr.hd b).2,b.drop 4⟩:eU)],e).2.1=[(⟨(Fr.hd b).2,b.drop 4⟩:eU)]from rfl,List.mem_singleton]at hf
     subst hf
     refine⟨fun x hx=>hb x (List.mem_of_mem_drop hx),?_⟩
     simp only[List.length_drop]
     omega
theorem Lj{a:gV}{p:jL}(ha:Fr.Val a)(hp:∀x∈p.Payload,Byte x):∀f∈(Fr.feed a p).2.1,(∀x∈f.Payload,Byte x)∧f.Payload.length≤65531:=by
 unfold Fr.feed
 split
 ·intro f hf; cases hf
 ·split
  ·intro f hf; cases hf
  ·split
   ·exact GK hp _
   ·split
    ·intro f hf; cases hf
    ·exact GK (fun x hx=>(List.mem_append.1 hx).elim (ha.byt x) (hp x)) _
theorem MInv.asmd{k:Nat}{m:aJ}(h:MInv k m){a:gV}(ha:Fr.Val a):MInv k { m with aA:=a }:=
 ⟨h.Ey,h.Jv,h.next,h.ask,h.uf,h.vv,h.Jq,h.yL,h.tQ,h.cnt,h.out,h.oI,h.sent,ha,h.iL⟩
def N8(x:bG)(f:eU):Option bG:=
 if ((f.cO == 4)||(f.cO == 6))=true then qg FF x (bM.mk 1 f.cO f.Payload 0 (fD.mk 0 0 0 0 0) 0)
 else if (f.cO == 5)=true then Si FF x f.Payload
 else if yH x.aD f.cO≥0∧dH x.aD f.cO=false then Wo FF x (yH x.aD f.cO) f.Payload
 else some x
theorem SA(x:bG)(l:List eU)(f:eU)(n:Nat)(hf:l[n]? = some f)(hn:n≤10)(h1:x.aD.aj.length≤1000)(h2:x.aD.aB.length≤1000):NK FF l x (n:Int)=(N8 x f).bind fun y=>some (.next (y,((n+1:Nat):Int))):=by
 have hlt:=(gS.1 hf).1
 unfold NK UK N8
 rw[if_pos (dt (by rw[lN]; omega)),aP hf,bs,rH x f.cO (by omega),bs,wN n (by omega)]
 by_cases c1:((f.cO == 4)||(f.cO == 6))=true
 ·rw[if_pos c1,if_pos c1]
 rw[if_neg c1,if_neg c1]
 by_cases c2:(f.cO == 5)=true
 ·rw[if_pos c2,if_pos c2]
 rw[if_neg c2,if_neg c2]
 rcases jm x.aD f.cO with⟨hl,_⟩ | ⟨i,c,hl,hc,hq⟩
 ·rw[hl,if_neg (df (by omega)),bs,if_neg (by simp),if_neg (by omega)]
  rfl
 ·rw[hl,if_pos (dt (by omega)),aP hc,bs,jv x c (by omega),bs,bs,hq]
  cases hcl:dH x.aD f.cO with
  | true=>rw[if_neg (by simp),if_neg (by simp)]; rfl
  | false=>rw[if_pos (by simp),if_pos (by exact⟨by omega,rfl⟩)]
theorem KM{k:Nat}{m:aJ}(h:MInv k m)(hk:k≤900000000){f:eU}(hb:∀x∈f.Payload,Byte x)(hl:f.Payload.length≤65531)(m0:aJ)(x:gV×List eU×Int)(hm:m = { m0 with aA:=x.1 }):Both (k+1) (N8 ⟨m,[]⟩ f) (if (f.cO == 4)=true then UF FF m0 x f (f.cO == 4)else UF FF m0 x f (f.cO == 6)):=by
 have hal:=h.p8
 have hcl:=h.rW
 unfold N8 UF
 rw[← hm]
 by_cases c4:(f.cO == 4)=true
 ·rw[if_pos (by simp[c4]),if_pos c4,if_pos c4,nV _ _ (by simp)]
  refine .mk' m [⟨1,f.cO,f.Payload,0,zu,0⟩] rfl ?_ (h.more (by omega))
  rw[hm]; rfl
 rw[if_neg c4]
 by_cases c6:(f.cO == 6)=true
 ·rw[if_pos (by simp[c6]),if_pos c6,nV _ _ (by simp)]
  refine .mk' m [⟨1,f.cO,f.Payload,0,zu,0⟩] rfl ?_ (h.more (by omega))
  rw[hm]; rfl
 rw[if_neg (by simp at c4 c6; simp[c4,c6]),if_neg c6]
 by_cases c5:(f.cO == 5)=true
 ·rw[if_pos c5,if_pos c5]
  obtain⟨z,z1,z2,z3⟩:=yD h hk hb (by omega)
  exact⟨z,z1,by rw[z2]; rfl,z3⟩
 rw[if_neg c5,if_neg c5,jW m f.cO (by omega),bs]
 rcases jm m f.cO with⟨hl',_⟩ | ⟨i,c,hl',hc,hq⟩
 ·rw[hl',if_neg (by omega),if_pos (dt (by omega)),bs,if_pos rfl]
  exact .mk' m [] rfl rfl (h.more (by omega))
 ·rw[hl',if_neg (c:=decide ((i:Int)<0)=true) (df (by omega)),iA m f.cO (by omega),bs,bs]
  cases hcl:dH m f.cO with
  | true=>
    rw[if_neg (by simp),if_pos rfl]
    exact .mk' m [] rfl rfl (h.more (by omega))
  | false=>
    rw[if_pos (by exact⟨by omega,rfl⟩),if_neg (by simp)]
    obtain⟨z,z1,z2,z3⟩:=Jd h hk hc hb (by omega)
    exact⟨z,z1,by rw[z2]; rfl,z3⟩
theorem pI{k:Nat}{m:aJ}(h:MInv k m)(hk:k≤900000000){p:jL}(hp:∀x∈p.Payload,Byte x)(hl:p.Payload.length≤200000):∃r,q24 FF m p=some r∧Zq FF m p=some r∧MInv (k+1) r.1∧r.2.length≤1:=by
 have hal:=h.p8
 have hcl:=h.rW
 have hI:=h.asmd (Fr.Li h.asm hp)
 have hpay:=Lj h.asm hp
 have hfr:=Fr.Du m.aA p
 unfold q24 Zq
 rw[rE FF m ff (h.sz (by omega)),bs,Fr.OM h.asm hp hl,Fr.Ka h.asm hp hl,bs,bs]
 generalize Fr.feed m.aA p=x at *
 unfold qad qac qab
 have hF:FF=(FF - 2)+1+1:=by rw[eY]
 match hq:x.2.1,hfr with
 | [],_=>
   rw[if_pos (by simp[len])]
   refine⟨({ m with aA:=x.1 },[]),?_,rfl,hI.more (by omega),by simp⟩
   rw[hF,bE (o:=(⟨{ m with aA:=x.1 },[]⟩:bG)) (by
    rw[← hF]
    show NK FF [] _ 0=_
    unfold NK
    rw[if_neg (df (by simp[len]))])]
   rfl
 | [f],_=>
   obtain⟨b1,b2⟩:=hpay f (by rw[hq]; simp)
   obtain⟨z,z1,z2,z3⟩:=KM hI hk b1 b2 m x rfl
   rw[if_neg (by simp[len]),show idx [f] 0=some f from rfl,bs,z2]
   refine⟨z,?_,rfl,z3⟩
   have o:=SA ⟨{ m with aA:=x.1 },[]⟩ [f] f 0 rfl (by omega) (by simp only; omega) (by simp only; omega)
   rw[z1,bs,show((0:Nat):Int)=0 from rfl]at o
   rw[hF,bH (s':=((⟨z.1,z.2⟩:bG),(1:Int))) (by
    rw[← hF]
    exact o),bE (o:=(⟨z.1,z.2⟩:bG)) (by
    rw[← hF]
    show NK FF [f] _ 1=_
    unfold NK
    rw[if_neg (df (by simp[len]))])]
   rfl
end V
end Go.Proofs.YtbgfhaahhdnogaaGreat

namespace Go.Proofs.YtbgfhaahhdnogaaGreat
namespace V
theorem MInv.level{k:Nat}{m:aJ}(h:MInv k m)(n:Int):MInv k { m with Level:=n }:=
 ⟨h.Ey,h.Jv,h.next,h.ask,h.uf,h.vv,h.Jq,h.yL,h.tQ,h.cnt,h.out,h.oI,h.sent,h.asm,h.iL⟩
theorem MInv.leng{k:Nat}{m:aJ}(h:MInv k m)(n:Int):MInv k { m with Length:=n }:=
 ⟨h.Ey,h.Jv,h.next,h.ask,h.uf,h.vv,h.Jq,h.yL,h.tQ,h.cnt,h.out,h.oI,h.sent,h.asm,h.iL⟩
theorem Dw(l:List bM)(hl:l.length≤1):Zp FF l l=some true:=by
 unfold Zp
 have k:=lI (F:=FF) (body:=fun s=>Pp FF l l s) (n:=l.length) (fun i hi=>by
  show Pp FF l l _=_
  unfold Pp
  rw[if_pos (by simp[len]; omega)]
  simp only[dN,gE hi,bs]
  unfold qb9
  simp only[bne_self_eq_false,Bool.or_false,Bool.false_eq_true,if_false,BEq.rfl,Bool.and_true,Bool.not_true,bs,jV,wN i (by omega)]) (by
  show Pp FF l l _=_
  unfold Pp
  rw[if_neg (by simp[len])]) (by rw[eY]; omega)
 rw[if_neg (by simp),k]
 rfl
theorem CQ(p:jL):ZE FF p p=some true:=by
 unfold ZE
 rw[if_pos (by simp),jV]
 rfl
def p9(s:DW):Prop:=s.Bytes.length≤8192∧s.dB.Payload.length≤8192
def yg(s:DW):Prop:=(0≤s.bg∧s.bg≤65535)∧∀x∈s.dB.Payload,Byte x
theorem Io{k:Nat}{m:aJ}(h:MInv k m)(hk:k≤700000000)(s:DW)(h1:p9 s)(h2:yg s):∃m',q2o FF m m s=some (m',m',true)∧MInv (k+1600000) m':=by
 unfold q2o
 by_cases c0:(s.Call == 0)=true
 ·obtain⟨r,e1,e2,e3⟩:=AX h (by omega) s.bg s.bA s.bC s.au h2.1
  rw[if_pos c0,e1,e2]
  exact⟨r.1,by simp[qba],e3.more (by omega)⟩
 rw[if_neg c0]
 by_cases c1:(s.Call == 1)=true
 ·obtain⟨r,e1,e2,e3⟩:=u7 h (by omega) s.cO
  rw[if_pos c1,e1,e2]
  exact⟨r.1,by simp[qbb],e3.more (by omega)⟩
 rw[if_neg c1]
 by_cases c2:(s.Call == 2)=true
 ·obtain⟨r,e1,e2,e3⟩:=Hw h (by omega) s.cO s.Bytes (by have:=h1.1; omega)
  rw[if_pos c2,e1,e2]
  exact⟨r.1,by simp[qbc],e3.more (by omega)⟩
 rw[if_neg c2]
 by_cases c3:(s.Call == 3)=true
 ·obtain⟨r,e1,e2,e3⟩:=FM h (by omega) s.cO s.Bytes
  rw[if_pos c3,e1,e2]
  exact⟨r.1,by simp[qbd],e3.more (by omega)⟩
 rw[if_neg c3]
 by_cases c4:(s.Call == 4)=true
 ·obtain⟨r,e1,e2,e3⟩:=CP h (by omega) s.Update
  rw[if_pos c4,e1,e2]
  exact⟨r.1,by simp[qbe],e3.more (by omega)⟩
 rw[if_neg c4]
 by_cases c5:(s.Call == 5)=true
 ·obtain⟨r,e1,e2,e3⟩:=EY h (by omega) s.ID s.Result
  rw[if_pos c5,e1,e2]
  exact⟨r.1,by simp[qbf],e3.more (by omega)⟩
 rw[if_neg c5]
 by_cases c6:(s.Call == 6)=true
 ·obtain⟨r,e1,e2,e3⟩:=nD h (by omega)
  rw[if_pos c6,e1,e2,bs,bs,if_pos (by simp),CQ]
  exact⟨r.1,rfl,e3⟩
 rw[if_neg c6]
 by_cases c7:(s.Call == 7)=true
 ·obtain⟨r,e1,e2,e3,e4⟩:=pI h (by omega) h2.2 (by have:=h1.2; omega)
  rw[if_pos c7,e1,e2,bs,bs,Dw _ e4]
  exact⟨r.1,rfl,e3.more (by omega)⟩
 rw[if_neg c7]
 by_cases c8:(s.Call == 8)=true
 ·rw[if_pos c8,Hy FF m s.Level ff (h.sz (by omega)),ET]
  exact⟨_,rfl,(h.level _).more (by omega)⟩
 rw[if_neg c8]
 exact⟨_,rfl,(h.leng _).more (by omega)⟩
theorem Oa{role:Int}{l:List dX}(h:(tF role l).2=0):MInv 0 (tF role l).1:=by
 unfold tF at h ⊢
 split at h
 ·cases h
 split at h
 ·cases h
 rename_i h1 h2
 split at h
 ·rename_i h3
  rw[if_neg h1,if_neg h2,if_pos h3]
  have hl:∀(n k:Nat),k+n=l.length→xD l k n=0→∀i,k≤i→i<l.length→∀x,l[i]? = some x→pq (l.take i) x=0:=by
   intro n
   induction n with
   | zero=>intro k hk _ i h1 h2; omega
   | succ n ih=>
     intro k hk hc i h1 h2 x hx
     have hkx:l[k]? = some l[k]:=gE (by omega)
     rw[zK hkx]at hc
     split at hc
     ·rename_i h0
      by_cases hi:i=k
      ·subst hi
       rw[hkx]at hx
       injection hx with hx
       rw[← hx]
       exact h0
      ·exact ih (k+1) (by omega) hc i (by omega) h2 x hx
     ·rename_i h0
      exact absurd hc h0
  have hu:gG (⟨role,0,l,[],[],1,⟨false,[]⟩,[],0,27⟩:aJ)=0:=by
   unfold gG
   rw[List.filter_eq_nil_iff.2 (fun v _=>by simp[dS,yP]),List.length_nil]
  refine⟨by simp only; omega,fun x hx=>?_,by simp only; omega,by simp,by simp,by simp,by simp,by simp,by simp,(by simp only[hu]; omega),by simp,fun _=>rfl,by simp,Fr.vZ,by simp⟩
  obtain⟨i,hi,rfl⟩:=List.mem_iff_getElem.1 hx
  have:=hl l.length 0 (by omega) h3 i (by omega) hi _ (gE hi)
  unfold pq at this
  split at this
  ·cases this
  split at this
  ·cases this
  split at this
  ·cases this
  rename_i h5
  simp only[Bool.not_eq_false,Bool.and_eq_true]at h5
  exact⟨h5.1.1.1,h5.1.1.2,h5.1.2⟩
 ·rename_i h3
  exact absurd h h3
theorem Im(S:DV)(hs:S.Steps.length≤150)(h1:∀s∈S.Steps,p9 s)(h2:∀s∈S.Steps,yg s):∀(l:List DW) (i f:Nat) (m:aJ),S.Steps.drop i=l→i≤S.Steps.length→MInv (i * 1600000) m→l.length<f→iter (fun s:aJ×aJ×Int=>Po FF S s.1 s.2.1 s.2.2) f (m,m,(i:Int))=some (.inl ()):=by
 intro l
 induction l with
 | nil=>
   intro i f m hd hi hI hf
   have hi2:i=S.Steps.length:=by
    have:=congrArg List.length hd
    rw[List.length_drop,List.length_nil]at this
    omega
   cases f with
   | zero=>omega
   | succ f=>
     refine bE ?_
     show Po FF S m m (i:Int)=_
     unfold Po
     rw[if_neg (df (by rw[lN]; omega))]
 | cons s l ih=>
   intro i f m hd hi hI hf
   have hx:S.Steps[i]? = some s:=by
    have:=congrArg (fun z:List DW=>z[0]?) hd
    simpa using this
   have hlt:=(gS.1 hx).1
   have hd2:S.Steps.drop (i+1)=l:=by
    have:=congrArg List.tail hd
    simpa using this
   cases f with
   | zero=>simp at hf
   | succ f=>
     obtain⟨m',p1,p2⟩:=Io hI (by omega) s (h1 s (tJ hx)) (h2 s (tJ hx))
     rw[bH (s':=(m',m',((i+1:Nat):Int))) (by
      show Po FF S m m (i:Int)=_
      unfold Po qbi
      rw[if_pos (dt (by rw[lN]; omega)),aP hx,bs,p1,bs,if_neg (by simp),CS FF m' ff (p2.sz (by omega)),bs,bs,if_neg (by simp),wN i (by omega)])]
     exact ih (i+1) f m' hd2 hlt (p2.more (by omega)) (by simp at hf; omega)
theorem FL(S:DV):∀(n i f:Nat) (a:Int),i+n=min S.Steps.length 150→(∀j,j<i→∀s,S.Steps[j]? = some s→p9 s)→n<f→∃r,iter (fun s:Int×Int=>MF FF S s.1 s.2) f (a,(i:Int))=some r∧(r = .inr true∨∃v,r = .inl v∧∀j,j<min S.Steps.length 150→∀s,S.Steps[j]? = some s→p9 s):=by
 intro n
 induction n with
 | zero=>
   intro i f a hi hj hf
   cases f with
   | zero=>omega
   | succ f=>
     refine⟨.inl a,bE ?_,.inr ⟨a,rfl,fun j h=>hj j (by omega)⟩⟩
     show MF FF S a (i:Int)=_
     unfold MF
     rw[if_neg (by rw[lN]; simp; omega)]
 | succ n ih=>
   intro i f a hi hj hf
   cases f with
   | zero=>omega
   | succ f=>
     have hx:S.Steps[i]? = some S.Steps[i]:=gE (by omega)
     generalize S.Steps[i]=s at hx
     by_cases hb:p9 s
     ·obtain⟨r,r1,r2⟩:=ih (i+1) f (aH (a+(aH ((len s.Bytes)+(len s.dB.Payload))))) (by omega) (fun j h t ht=>by
       by_cases hji:j=i
       ·subst hji
        rw[hx]at ht
        injection ht with ht
        rw[← ht]
        exact hb
       ·exact hj j (by omega) t ht) (by omega)
      refine⟨r,?_,r2⟩
      rw[bH (s':=(aH (a+(aH ((len s.Bytes)+(len s.dB.Payload)))),((i+1:Nat):Int))) (by
       show MF FF S a (i:Int)=_
       unfold MF
       rw[if_pos (by rw[lN]; simp; omega)]
       simp only[aP hx,bs]
       rw[if_neg (c:=decide (len s.Bytes > 8192)=true) (df (by have:=hb.1; rw[lN]; omega)),bs,if_neg (df (by have:=hb.2; rw[lN]; omega)),wN i (by omega)])]
      exact r1
     ·refine⟨.inr true,bE ?_,.inl rfl⟩
      show MF FF S a (i:Int)=_
      unfold MF
      rw[if_pos (by rw[lN]; simp; omega)]
      simp only[aP hx,bs,rU]
      by_cases h1:len s.Bytes > 8192
      ·rw[if_pos (c:=decide (len s.Bytes > 8192)=true) (dt h1),bs,if_pos rfl]
      ·rw[if_neg (c:=decide (len s.Bytes > 8192)=true) (df h1),bs,if_pos (dt (by
        rw[lN]at h1 ⊢
        unfold p9 at hb
        omega))]
theorem Il(S:DV)(h2:∀s∈S.Steps,yg s):Wm FF S=some true:=by
 unfold Wm
 obtain⟨r,r1,r2⟩:=FL S (min S.Steps.length 150) 0 FF 0 (by omega) (fun j h=>by omega) (by rw[eY]; omega)
 rw[show((0:Nat):Int)=0 from rfl]at r1
 rw[r1,bs]
 rcases r2 with rfl | ⟨v,rfl,h1⟩
 ·rfl
 show YZ FF S v=some true
 unfold YZ
 by_cases hg:(((decide ((len S.Steps) > 150))||(decide ((len S.ay) > 20)))||(decide (v > 8192)))=true
 ·rw[if_pos hg,rU]; rfl
 rw[if_neg hg]
 have hs:S.Steps.length≤150:=by
  rw[lN]at hg
  simp at hg
  omega
 rw[SG FF S.eT S.ay (by have:=ff; omega),Nw FF S.eT S.ay (by have:=ff; omega),bs,bs,if_neg (c:=((tF S.eT S.ay).2 != (tF S.eT S.ay).2)=true) (by simp),CS FF _ ff (SF _ _),bs,bs,if_neg (c:=(!true)=true) (by simp)]
 by_cases he:((tF S.eT S.ay).2 != 0)=true
 ·rw[if_pos he,rU]; rfl
 rw[if_neg he]
 have hI:=Oa (role:=S.eT) (l:=S.ay) (by simpa using he)
 have hok:∀s∈S.Steps,p9 s:=fun s hs'=>by
  obtain⟨j,hj,rfl⟩:=List.mem_iff_getElem.1 hs'
  exact h1 j (by omega) _ (gE hj)
 have:=Im S hs hok h2 S.Steps 0 FF (tF S.eT S.ay).1 (by simp) (by omega) (hI.more (by omega)) (by rw[eY]; omega)
 rw[show((0:Nat):Int)=0 from rfl]at this
 rw[this,bs]
 unfold qbh
 simp only[rU,bs]
end V
end Go.Proofs.YtbgfhaahhdnogaaGreat
