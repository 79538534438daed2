/- Numbers and bytes of chapter 43: Put and Num of the referenc -/
import Derived.Test.YtoahakdkgefgiaaGreatLoop
import Derived.Test.YtoahakdkgefgiaaGreatFx
import Derived.KernelRfl
namespace Go.Proofs.YtoahakdkgefgiaaGreat
namespace V
theorem bs {α β:Type} (a:α) (f:α→Option β):(some a).bind f=f a:=rfl
theorem gE {α:Type} {l:List α} {i:Nat} (h:i<l.length):l[i]?=some l[i]:=List.getElem?_eq_getElem h
theorem lA {α:Type} {l m:List α}:(l++m).length=l.length+m.length:=List.length_append
theorem gM {α:Type} {l:List α} {i:Nat} (h:i<l.length):l[i]∈l:=List.getElem_mem h
theorem gS {α:Type} {l:List α} {i:Nat} {a:α}:l[i]?=some a↔∃h:i<l.length,l[i]=a:=List.getElem?_eq_some_iff
def FF:Nat:=1125899906842624
def Byte (x:Int):Prop:=0≤x∧x<256
def leb:Nat→Int→List Int
  | 0,_=>[]
  | k+1,n=>n % 256::leb k (n / 256)
def num:List Int→Int
  | []=>0
  | b::r=>b+256 * num r
theorem lL:∀k n,(leb k n).length=k
  | 0,_=>rfl
  | k+1,n=>by simp [leb,lL k]
theorem leb_byte:∀k n,∀x∈leb k n,Byte x
  | 0,_,x,h=>by cases h
  | k+1,n,x,h=>by
    rcases List.mem_cons.1 h with rfl | h
    · exact⟨Int.emod_nonneg _ (by decide),Int.emod_lt_of_pos _ (by decide)⟩
    · exact leb_byte k _ x h
theorem pow_succ256 (k:Nat):(256:Int) ^ (k+1)=256 * 256 ^ k:=by rw [Int.pow_succ,Int.mul_comm]
theorem pow_pos256 (k:Nat):(0:Int)<256 ^ k:=Int.pow_pos (by decide)
theorem leb_snoc:∀(k:Nat) (n:Int),leb (k+1) n=leb k n++[n / 256 ^ k % 256]
  | 0,n=>by simp [leb]
  | k+1,n=>by
    have:=leb_snoc k (n / 256)
    rw [leb,this,leb,List.cons_append,pow_succ256,Int.ediv_ediv_of_nonneg (by decide:(0:Int)≤256)]
theorem num_nonneg:∀{l:List Int},(∀x∈l,Byte x)→0≤num l
  | [],_=>by simp [num]
  | b::r,h=>by
    have h1:=(h b (by simp)).1
    have h2:=num_nonneg (l:=r) fun x hx=>h x (by simp [hx])
    simp only [num]; omega
theorem num_lt:∀{l:List Int},(∀x∈l,Byte x)→num l<256 ^ l.length
  | [],_=>by simp [num]
  | b::r,h=>by
    have h1:=(h b (by simp)).2
    have h2:=num_lt (l:=r) fun x hx=>h x (by simp [hx])
    simp only [num,List.length_cons,pow_succ256]; omega
theorem num_append:∀(l m:List Int),num (l++m)=num l+256 ^ l.length * num m
  | [],m=>by simp [num]
  | b::r,m=>by
    simp only [List.cons_append,num,List.length_cons,pow_succ256,num_append r m,Int.mul_add,Int.mul_assoc]
    omega
theorem tmod256 {n:Int} (h:0≤n):n.tmod 256=n % 256:=Int.tmod_eq_emod_of_nonneg h
theorem tdiv256 {n:Int} (h:0≤n):n.tdiv 256=n / 256:=Int.tdiv_eq_ediv_of_nonneg h
theorem app_cat {l m:List Int} (h:l.length+m.length≤140737488355328):app 1 l m=some (l++m):=by
  rw [app_small (by omega) (by omega)]
theorem rnum_ok (F:Nat) (b m:List Int) (at_:Nat) (hF:m.length<F) (hb:∀x∈m,Byte x) (hm:m.length≤8) (hat:at_≤1000000) (h:∀i,i<m.length→b[at_+i]? = m[i]?):wirelessref23_Num F b at_ (m.length:Int)=some (num m):=by
  have key:∀(k f:Nat) (r:List Int),r.length+k=m.length→(∀i,i<r.length→m[k+i]? = r[i]?)→k<f→iter (fun s=>wirelessref23_Num_l1 F b at_ s.1 s.2) f (num r,(k:Int) - 1)=some (num (m.take k++r)):=by
    intro k
    induction k with
    | zero=>
      intro f r hr _ hf
      cases f with
      | zero=>omega
      | succ f=>
        rw [iter_stop (o:=num r) (by unfold wirelessref23_Num_l1; rw [if_neg (by simp)])]
        simp
    | succ k ih=>
      intro f r hr hri hf
      cases f with
      | zero=>omega
      | succ f=>
        have hk:k<m.length:=by omega
        have hx:m[k]? = some m[k]:=gE hk
        have hbx:=hb m[k] (gM hk)
        have hrb:∀x∈r,Byte x:=by
          intro x hx
          obtain⟨i,hi⟩:=List.getElem?_of_mem hx
          have hil:=(gS.1 hi).1
          rw [← hri i hil] at hi
          exact hb x (List.mem_of_getElem? hi)
        have hn0:=num_nonneg hrb
        have hn1:=num_lt hrb
        have hpow:(256:Int) ^ r.length≤256 ^ 7:=by
          have h2:(256:Nat) ^ r.length≤256 ^ 7:=Nat.pow_le_pow_right (by decide) (by omega)
          have h3:((256 ^ r.length:Nat):Int)≤((256 ^ 7:Nat):Int):=Int.ofNat_le.2 h2
          rw [Int.natCast_pow,Int.natCast_pow] at h3
          exact h3
        have hidx:idx b (w64 ((at_:Int)+((k+1:Nat) - 1:Int)))=some m[k]:=by
          rw [show (at_:Int)+(((k+1:Nat):Int) - 1)=((at_+k:Nat):Int) from by omega,w64_id (by omega) (by omega),dN,h k hk,hx]
        have hstep:wirelessref23_Num_l1 F b at_ (num r) (((k+1:Nat):Int) - 1)=some (.next (num (m[k]::r),(k:Int) - 1)):=by
          unfold wirelessref23_Num_l1
          rw [if_pos (by simp),hidx]
          simp only [bs,num]
          obtain⟨hb0,hb1⟩:=hbx
          rw [wu64_id (x:=num r * 256) (by omega) (by omega),wu64_id (x:=m[k]) (by omega) (by omega),wu64_id (by omega) (by omega),w64_id (by omega) (by omega)]
          congr 3 <;> omega
        rw [iter_step hstep,ih f (m[k]::r) (by simp; omega) (by
          intro i hi
          cases i with
          | zero=>simp
          | succ i=>
            have:=hri i (by simp at hi; omega)
            rw [show k+(i+1)=k+1+i from by omega]
            simpa using this) (by omega)]
        rw [List.take_add_one,hx,List.append_assoc]
        rfl
  unfold wirelessref23_Num
  rw [w64_id (by omega) (by omega)]
  have:=key m.length F [] (by simp) (by simp) hF
  simp only [num,List.take_length,List.append_nil] at this
  rw [this]
  rfl
theorem join_step (F:Nat) (ps:List (List Int)) (l:List Int) (i:Nat) (x:List Int) (hx:ps[i]? = some x) (hl:l.length+x.length≤140737488355328) (hi:ps.length≤9000000000000000000):qm F ps l i=some (.next (l++x,((i+1:Nat):Int))):=by
  have hlt:i<ps.length:=(gS.1 hx).1
  unfold qm
  have hd:decide ((i:Int)<len ps)=true:=by simp [len]; omega
  rw [if_pos hd,dN,hx]
  simp only [bs]
  rw [app_cat hl]
  simp only [bs]
  rw [wN i (by omega)]
theorem join_two (F:Nat) (a b:List Int) (hF:2<F) (h:a.length+b.length≤140737488355328):q5 F [a,b]=some (a++b):=by
  unfold q5
  obtain⟨F',rfl⟩:∃F',F=F'+1+1+1:=⟨F - 3,by omega⟩
  have h1:qm (F'+1+1+1) [a,b] [] 0=some (.next (a,1)):=by simpa using join_step (F'+1+1+1) [a,b] [] 0 a rfl (by simp; omega) (by simp)
  have h2:qm (F'+1+1+1) [a,b] a 1=some (.next (a++b,2)):=by simpa using join_step (F'+1+1+1) [a,b] a 1 b rfl (by omega) (by simp)
  rw [iter_step h1,iter_step h2,iter_stop (o:=a++b) (by unfold qm; rw [if_neg (by simp [len])])]
  rfl
theorem join_one (F:Nat) (a:List Int) (hF:1<F) (h:a.length≤140737488355328):q5 F [a]=some a:=by
  unfold q5
  obtain⟨F',rfl⟩:∃F',F=F'+1+1:=⟨F - 2,by omega⟩
  have h1:qm (F'+1+1) [a] [] 0=some (.next (a,1)):=by simpa using join_step (F'+1+1) [a] [] 0 a rfl (by simp; omega) (by simp)
  rw [iter_step h1,iter_stop (o:=a) (by unfold qm; rw [if_neg (by simp [len])])]
  rfl
theorem nat_or_add (a b i:Nat) (ha:a<2 ^ i):a ||| (b * 2 ^ i)=a+b * 2 ^ i:=by
  have h:=Nat.shiftLeft_add_eq_or_of_lt ha b
  rw [Nat.shiftLeft_eq] at h
  rw [Nat.or_comm,← h,Nat.add_comm]
theorem pow256 (i:Nat):(256:Int) ^ i=((2 ^ (8 * i):Nat):Int):=by
  rw [Nat.pow_mul,show (2:Nat) ^ 8=256 from by decide]
  exact (congrArg (fun z:Int=>z ^ i) (rfl:(256:Int)=((256:Nat):Int))).trans (Int.natCast_pow 256 i).symm
theorem ior_add (a b:Int) (i:Nat) (hi:i<8) (h0:0≤a) (h1:a<256 ^ i) (h2:Byte b):ior .u64 a (b * 256 ^ i)=a+b * 256 ^ i:=by
  obtain⟨b0,b1⟩:=h2
  obtain⟨a,rfl⟩:=Int.eq_ofNat_of_zero_le h0
  obtain⟨b,rfl⟩:=Int.eq_ofNat_of_zero_le b0
  have hp:=pow256 i
  rw [hp] at h1 ⊢
  have ha:a<2 ^ (8 * i):=by exact_mod_cast h1
  have hb:b<256:=by omega
  have hle:(2:Nat) ^ (8 * i)≤2 ^ 56:=Nat.pow_le_pow_right (by decide) (by omega)
  have hbl:b * 2 ^ (8 * i)<2 ^ 64:=by
    have:b * 2 ^ (8 * i)≤255 * 2 ^ 56:=Nat.mul_le_mul (by omega) hle
    omega
  have hs:a+b * 2 ^ (8 * i)<2 ^ 64:=by
    have:(b+1) * 2 ^ (8 * i)≤256 * 2 ^ 56:=Nat.mul_le_mul (by omega) hle
    rw [Nat.add_mul] at this
    omega
  unfold ior
  have e:((b:Int) * ((2 ^ (8 * i):Nat):Int))=((b * 2 ^ (8 * i):Nat):Int):=by rw [Int.natCast_mul]
  have e2:(BitVec.ofInt IntKind.u64.bits (a:Int) ||| BitVec.ofInt IntKind.u64.bits ((b:Int) * ((2 ^ (8 * i):Nat):Int))).toNat=a+b * 2 ^ (8 * i):=by
    rw [e,BitVec.toNat_or]
    show (BitVec.ofInt 64 (a:Int)).toNat ||| (BitVec.ofInt 64 ((b * 2 ^ (8 * i):Nat):Int)).toNat=_
    rw [BitVec.toNat_ofInt,BitVec.toNat_ofInt]
    rw [show (((a:Nat):Int) % ((2 ^ 64:Nat):Int)).toNat=a from by rw [← Int.natCast_emod,Int.toNat_natCast,Nat.mod_eq_of_lt (by omega)]]
    rw [show (((b * 2 ^ (8 * i):Nat):Int) % ((2 ^ 64:Nat):Int)).toNat=b * 2 ^ (8 * i) from by rw [← Int.natCast_emod,Int.toNat_natCast,Nat.mod_eq_of_lt hbl]]
    exact nat_or_add a b (8 * i) ha
  rw [e2,wrap_u64]
  unfold wu64
  rw [Int.natCast_add,Int.natCast_mul]
  rw [show ((a:Int)+(b:Int) * ((2 ^ (8 * i):Nat):Int))=((a+b * 2 ^ (8 * i):Nat):Int) from by rw [Int.natCast_add,Int.natCast_mul]]
  omega
theorem pow2_nat (i:Nat):(2:Int) ^ (8 * i)=((2 ^ (8 * i):Nat):Int):=(congrArg (fun z:Int=>z ^ (8 * i)) (rfl:(2:Int)=((2:Nat):Int))).trans (Int.natCast_pow 2 (8 * i)).symm
theorem shl_le (x i:Nat) (h1:(x:Int)<256) (hi:i<8):x * 2 ^ (8 * i)≤255 * 2 ^ 56:=by
  have hle:(2:Nat) ^ (8 * i)≤2 ^ 56:=Nat.pow_le_pow_right (by decide) (by omega)
  exact Nat.mul_le_mul (by omega) hle
theorem wu64_le (q:Nat) (hb:q≤255 * 2 ^ 56):wu64 (q:Int)=q:=by
  rw [wu64_id (by omega) (by omega)]
theorem shl_core (x i:Nat) (hi:i<8):ishl .u64 (x:Int) (8 * i)=some (IntKind.u64.wrap ((x:Int) * 2 ^ (8 * i))):=by
  unfold ishl
  rw [if_neg (by omega)]
  have e1:min (8 * (i:Int)).toNat IntKind.u64.bits=8 * i:=by
    show min (8 * (i:Int)).toNat 64=8 * i
    omega
  rw [e1]
theorem shl_bytes {x:Int} (hx:Byte x) (i:Nat) (hi:i<8):ishl .u64 (wu64 x) (w64 (8 * i))=some (x * 256 ^ i):=by
  obtain⟨h0,h1⟩:=hx
  obtain⟨x,rfl⟩:=Int.eq_ofNat_of_zero_le h0
  have e1:w64 (8 * (i:Int))=8 * i:=w64_id (by omega) (by omega)
  have e2:wu64 (x:Int)=x:=wu64_id (by omega) (by omega)
  have e3:=wu64_le _ (shl_le x i h1 hi)
  rw [Int.natCast_mul,← pow2_nat] at e3
  have e4:(256:Int) ^ i=2 ^ (8 * i):=(pow256 i).trans (pow2_nat i).symm
  rw [e1,e2,shl_core x i hi,wrap_u64,e3,e4]
end V
end Go.Proofs.YtoahakdkgefgiaaGreat

namespace Go.Proofs.YtoahakdkgefgiaaGreat
namespace V
theorem iter_find {S O α:Type} {body:S→Option (Out S O)} (st:Nat→S) {l:List α} {p:α→Bool} {g:Nat→O} {e:O} (h:∀(i:Nat) x,l[i]? = some x→body (st i)=some (if p x=true then .done (g i) else .next (st (i+1)))) (he:body (st l.length)=some (.done e)) :
    ∀(F i:Nat),i≤l.length→l.length - i<F→iter body F (st i)=some (match (l.drop i).findIdx? p with | some k=>g (i+k) | none=>e)
  | 0,i,_,hF=>by omega
  | F+1,i,hi,hF=>by
    by_cases hin:i<l.length
    · have hx:l[i]? = some l[i]:=gE hin
      have hdr:l.drop i=l[i]::l.drop (i+1):=List.drop_eq_getElem_cons hin
      have hb:=h i _ hx
      by_cases hp:p l[i]=true
      · rw [if_pos hp] at hb
        rw [iter_stop hb,hdr,List.findIdx?_cons,hp]
        rfl
      · rw [if_neg hp] at hb
        rw [iter_step hb,iter_find st h he F (i+1) hin (by omega),hdr,List.findIdx?_cons,if_neg hp]
        cases (l.drop (i+1)).findIdx? p with
        | none=>rfl
        | some k=>simp only [Option.map_some]; rw [show i+1+k=i+(k+1) from by omega]
    · have:i=l.length:=by omega
      subst this
      rw [iter_stop he,List.drop_length]
      rfl
theorem df {p:Prop} [Decidable p] (h:¬ p):¬ decide p=true:=by simpa using h
def sht (n:Int):Tx0:=Tx0.mk (n * 4294967296+4096) 9223372588214596859
structure UOk (u:Tx0):Prop where
  h0:0≤u.High
  h1:u.High<18446744073709551616
  l0:0≤u.Low
  l1:u.Low<18446744073709551616
theorem sht_ok {n:Int} (h0:0≤n) (h1:n<65536):UOk (sht n):=⟨by simp only [sht]; omega,by simp only [sht]; omega,by simp only [sht]; omega,by simp only [sht]; omega⟩
theorem rshort (F:Nat) (n:Int) (h0:0≤n) (h1:n<65536):qd F n=some (sht n):=by
  unfold qd sht
  rw [wu64_id (x:=n) (by omega) (by omega),wu64_id (x:=n * 4294967296) (by omega) (by omega),wu64_id (by omega) (by omega)]
theorem ofInt_nat (w a:Nat) (h:a<2 ^ w):(BitVec.ofInt w (a:Int)).toNat=a:=by
  rw [BitVec.toNat_ofInt,← Int.natCast_emod,Int.toNat_natCast,Nat.mod_eq_of_lt h]
theorem ior64 (a b:Nat) (ha:a<2 ^ 64) (hb:b<2 ^ 64):ior .u64 (a:Int) (b:Int)=((a ||| b:Nat):Int):=by
  have h:=Nat.or_lt_two_pow ha hb
  unfold ior
  have e:(BitVec.ofInt IntKind.u64.bits (a:Int) ||| BitVec.ofInt IntKind.u64.bits (b:Int)).toNat=a ||| b:=by
    rw [BitVec.toNat_or]
    show (BitVec.ofInt 64 (a:Int)).toNat ||| (BitVec.ofInt 64 (b:Int)).toNat=_
    rw [ofInt_nat 64 a ha,ofInt_nat 64 b hb]
  rw [e,wrap_u64,wu64_id (by omega) (by omega)]
theorem ior16 (a b:Nat) (ha:a<2 ^ 16) (hb:b<2 ^ 16):ior .u16 (a:Int) (b:Int)=((a ||| b:Nat):Int):=by
  have h:=Nat.or_lt_two_pow ha hb
  unfold ior
  have e:(BitVec.ofInt IntKind.u16.bits (a:Int) ||| BitVec.ofInt IntKind.u16.bits (b:Int)).toNat=a ||| b:=by
    rw [BitVec.toNat_or]
    show (BitVec.ofInt 16 (a:Int)).toNat ||| (BitVec.ofInt 16 (b:Int)).toNat=_
    rw [ofInt_nat 16 a ha,ofInt_nat 16 b hb]
  rw [e,wrap_u16,wu16_id (by omega) (by omega)]
theorem ushort (F:Nat) (n:Int) (h0:0≤n) (h1:n<65536):q1o F n=some (sht n):=by
  unfold q1o sht
  obtain⟨n,rfl⟩:=Int.eq_ofNat_of_zero_le h0
  have e:shlp .u64 (wu64 (n:Int)) 32=((n * 2 ^ 32:Nat):Int):=by
    unfold shlp
    rw [wu64_id (by omega) (by omega),wrap_u64,show (n:Int) * 2 ^ 32=((n * 2 ^ 32:Nat):Int) from by rw [Int.natCast_mul]; rfl,wu64_id (by omega) (by omega)]
  rw [e,show (4096:Int)=((4096:Nat):Int) from rfl,ior64 _ _ (by omega) (by omega),Nat.or_comm,nat_or_add _ _ 32 (by decide)]
  congr 2
  omega
theorem word16 {x y:Int} (hx:Byte x) (hy:Byte y):ior .u16 (wu16 x) (shlp .u16 (wu16 y) 8)=x+256 * y:=by
  obtain⟨x0,x1⟩:=hx
  obtain⟨y0,y1⟩:=hy
  obtain⟨x,rfl⟩:=Int.eq_ofNat_of_zero_le x0
  obtain⟨y,rfl⟩:=Int.eq_ofNat_of_zero_le y0
  have e:shlp .u16 (wu16 (y:Int)) 8=((y * 2 ^ 8:Nat):Int):=by
    unfold shlp
    rw [wu16_id (by omega) (by omega),wrap_u16,show (y:Int) * 2 ^ 8=((y * 2 ^ 8:Nat):Int) from by rw [Int.natCast_mul]; rfl,wu16_id (by omega) (by omega)]
  rw [e,wu16_id (by omega) (by omega),ior16 _ _ (by omega) (by omega),nat_or_add _ _ 8 (by omega)]
  omega
theorem shrp_eq (x:Int) (n:Nat):shrp x n=x / 2 ^ n:=by
  unfold shrp
  rw [Int.fdiv_eq_ediv_of_nonneg _ (Int.le_of_lt (Int.pow_pos (by decide)))]
theorem ubytes (F:Nat) (u:Tx0):q10 F u=some (u.Low % 256,u.Low / 256 % 256,u.Low / 65536 % 256,u.Low / 16777216 % 256,u.Low / 4294967296 % 256,u.Low / 1099511627776 % 256,u.Low / 281474976710656 % 256,u.Low / 72057594037927936 % 256,u.High % 256,u.High / 256 % 256,u.High / 65536 % 256,u.High / 16777216 % 256,u.High / 4294967296 % 256,u.High / 1099511627776 % 256,u.High / 281474976710656 % 256,u.High / 72057594037927936 % 256):=by
  simp only [q10,q5p,q5o,q5n,q5m,q5l,q5k,q5j,q5i,q5h,shrp_eq,wu8,Int.reducePow,Int.ediv_one]
def numb (u:Tx0):Int×Bool:=if u.Low=9223372588214596859∧u.High % 4294967296=4096∧u.High / 4294967296<65536 then (u.High / 4294967296,true) else (0,false)
theorem unumber (F:Nat) {u:Tx0} (hu:UOk u):q12 F u=some (numb u):=by
  obtain⟨h0,h1,l0,l1⟩:=hu
  unfold q12
  rw [ubytes,bs,show q10 F (Tx0.mk 4096 9223372588214596859)=some (251,52,155,95,128,0,0,128,0,16,0,0,0,0,0,0) from by rw [ubytes]; rfl,bs]
  unfold q5q numb
  by_cases h:u.Low=9223372588214596859∧u.High % 4294967296=4096∧u.High / 4294967296<65536
  · rw [if_pos h]
    obtain⟨h2,h3,h4⟩:=h
    rw [if_neg (by
      rw [Bool.not_eq_true']
      simp only [Bool.not_eq_false,Bool.and_eq_true,beq_iff_eq]
      refine ⟨by omega,by omega,by omega,by omega,by omega,by omega,by omega,by omega,by omega,by omega,by omega,by omega,trivial,trivial,by omega,by omega⟩)]
    simp only
    rw [word16 ⟨by omega,by omega⟩ ⟨by omega,by omega⟩]
    congr 2
    omega
  · rw [if_neg h,if_pos (by
      rw [Bool.not_eq_true',Bool.eq_false_iff]
      intro hc
      simp only [Bool.and_eq_true,beq_iff_eq] at hc
      exact h (by omega))]
theorem rnumber (F:Nat) {u:Tx0} (hu:UOk u):q19 F u=some (numb u):=by
  obtain⟨h0,h1,l0,l1⟩:=hu
  unfold q19 numb
  have e:quop .u64 u.High 4294967296=u.High / 4294967296:=by
    unfold quop
    rw [Int.tdiv_eq_ediv_of_nonneg h0,wrap_u64,wu64_id (by omega) (by omega)]
  rw [e]
  by_cases hb:u.High / 4294967296 > 65535
  · rw [if_pos (by simpa using hb),if_neg (by omega)]
    rfl
  · rw [if_neg (by simpa using hb),wu16_id (by omega) (by omega),rshort _ _ (by omega) (by omega),bs]
    unfold q4l sht
    simp only
    by_cases h:u.Low=9223372588214596859∧u.High % 4294967296=4096∧u.High / 4294967296<65536
    · rw [if_pos h,if_neg (by
        rw [Bool.not_eq_true']
        simp only [Bool.not_eq_false,Bool.and_eq_true,beq_iff_eq]
        omega),e,wu16_id (by omega) (by omega)]
    · rw [if_neg h,if_pos (by
        rw [Bool.not_eq_true',Bool.eq_false_iff]
        intro hc
        simp only [Bool.and_eq_true,beq_iff_eq] at hc
        exact h (by omega))]
def isN (u:Tx0) (n:Int):Bool:=u.High == n * 4294967296+4096&&u.Low == 9223372588214596859
theorem isN_sh {m n:Int}:isN (sht m) n=(m == n):=by
  unfold isN sht
  simp only
  by_cases h:m=n
  · subst h; simp
  · rw [beq_false_of_ne h,beq_false_of_ne (by omega)]; rfl
theorem isN_eq {u:Tx0} {n:Int} (h:isN u n=true):u=sht n:=by
  unfold isN at h
  simp only [Bool.and_eq_true,beq_iff_eq] at h
  cases u
  simp only [sht] at h ⊢
  rw [h.1,h.2]
theorem isN_num {u:Tx0} {n:Int} (h0:0≤n) (h1:n<65536):((numb u).2&&(n == (numb u).1))=isN u n:=by
  unfold numb isN
  by_cases h:u.Low=9223372588214596859∧u.High % 4294967296=4096∧u.High / 4294967296<65536
  · rw [if_pos h]
    obtain⟨h2,h3,h4⟩:=h
    by_cases hn:n=u.High / 4294967296
    · simp only [Bool.true_and]
      rw [show (n == u.High / 4294967296)=true from by simpa using hn,show (u.High == n * 4294967296+4096)=true from by simp; omega,show (u.Low == 9223372588214596859)=true from by simpa using h2]
      rfl
    · simp only [Bool.true_and]
      rw [beq_false_of_ne hn,beq_false_of_ne (by omega)]
      rfl
  · rw [if_neg h]
    simp only [Bool.false_and]
    symm
    rw [Bool.eq_false_iff]
    intro hc
    simp only [Bool.and_eq_true,beq_iff_eq] at hc
    exact h (by omega)
theorem index_ok (F:Nat) (l:List Int) (v:Int) (hF:l.length<F) (hl:l.length≤1000):q2z F l v=some (match l.findIdx? (fun x=>v == x) with | some k=>(k:Int) | none=>-1):=by
  unfold q2z
  have:=iter_find (body:=fun s=>q1m F l v s) (fun i=>(i:Int)) (l:=l) (p:=fun x=>v == x) (g:=fun k=>Sum.inr (k:Int)) (e:=Sum.inl ()) (by
    intro i x hx
    have hi:=(gS.1 hx).1
    show q1m F l v i=_
    unfold q1m
    rw [if_pos (by simp [len]; omega),dN,hx,bs,wN i (by omega)]
    split <;> rfl) (by
    show q1m F l v _=_
    unfold q1m
    rw [if_neg (by simp [len])]) F 0 (by omega) (by omega)
  rw [show ((0:Nat):Int)=0 from rfl] at this
  rw [this,bs,List.drop_zero]
  cases l.findIdx? (fun x=>v == x) with
  | none=>rfl
  | some k=>simp
theorem contains_ok (F:Nat) (l:List Int) (v:Int) (hF:l.length<F) (hl:l.length≤1000):q1n F l v=some (l.any fun x=>v == x):=by
  unfold q1n
  rw [index_ok F l v hF hl,bs]
  congr 1
  cases h:l.findIdx? (fun x=>v == x) with
  | none=>
    rw [List.findIdx?_eq_none_iff] at h
    symm
    simp only [decide_eq_false (show ¬ ((-1:Int)≥0) by omega)]
    rw [List.any_eq_false]
    intro x hx
    rw [h x hx]
    decide
  | some k=>
    have:=List.findIdx?_eq_some_iff_getElem.1 h
    obtain⟨hk,hp,_⟩:=this
    symm
    rw [decide_eq_true (show (k:Int)≥0 by omega),List.any_eq_true]
    exact⟨_,gM hk,hp⟩
theorem is_ok (F:Nat) {u:Tx0} (hu:UOk u) (l:List Int) (hF:l.length<F) (hl:l.length≤1000) (hb:∀n∈l,0≤n∧n<65536):qf F u l=some (l.any (isN u)):=by
  unfold qf
  rw [unumber F hu,bs]
  have e:((numb u).2&&l.any fun x=>(numb u).1 == x)=l.any (isN u):=by
    induction l with
    | nil=>simp
    | cons n r ih=>
      have h1:=isN_num (u:=u) (hb n (by simp)).1 (hb n (by simp)).2
      rw [List.any_cons,List.any_cons,← h1,← ih (by simp at hF; omega) (by simp at hl; omega) fun m hm=>hb m (by simp [hm])]
      rw [Bool.and_or_distrib_left,show ((numb u).1 == n)=(n == (numb u).1) from by rw [Bool.eq_iff_iff,beq_iff_eq,beq_iff_eq]; exact eq_comm]
  by_cases h:(numb u).2=true
  · rw [if_pos h,contains_ok F l _ hF hl,bs,bs,← e,h,Bool.true_and]
  · rw [if_neg h,bs,← e,(Bool.not_eq_true _).mp h,Bool.false_and]
def isv (u:Tx0):Bool:=isN u 10240||isN u 10241
def decl (u:Tx0):Bool:=isv u||(isN u 10242||isN u 10243)
def resv (u:Tx0):Bool:=decl u||isN u 10498
theorem is1 (F:Nat) {u:Tx0} (hu:UOk u) (n:Int) (hF:10<F) (h0:0≤n) (h1:n<65536):qf F u [n]=some (isN u n):=by
  rw [is_ok F hu [n] (by simp; omega) (by simp) (by simp; omega)]
  simp
theorem service_ok (F:Nat) {u:Tx0} (hu:UOk u) (hF:10<F):qj F u=some (isv u):=by
  unfold qj isv
  rw [is_ok F hu [10240,10241] (by simp; omega) (by simp) (by intro n hn; simp at hn; omega)]
  simp
theorem declaration_ok (F:Nat) {u:Tx0} (hu:UOk u) (hF:10<F):q13 F u=some (decl u):=by
  unfold q13 decl
  rw [service_ok F hu hF,bs,is_ok F hu [10242,10243] (by simp; omega) (by simp) (by intro n hn; simp at hn; omega)]
  cases isv u <;> simp
theorem reserved_ok (F:Nat) {u:Tx0} (hu:UOk u) (hF:10<F):q31 F u=some (resv u):=by
  unfold q31 resv
  rw [declaration_ok F hu hF,bs,is1 F hu 10498 hF (by decide) (by decide)]
  cases decl u <;> simp
theorem rIs (F:Nat) (u:Tx0) (n:Int) (h0:0≤n) (h1:n<65536):qe F u n=some (isN u n):=by
  unfold qe
  rw [rshort F n h0 h1]
  rfl
theorem rIsService (F:Nat) (a:Tx1):wirelessref43_IsService F a=some (isv a.fT):=by
  unfold wirelessref43_IsService isv
  rw [rIs F _ _ (by decide) (by decide),rIs F _ _ (by decide) (by decide),bs]
  cases isN a.fT 10240 <;> simp
theorem rIsChar (F:Nat) (a:Tx1):wirelessref43_IsChar F a=some (isN a.fT 10243):=by
  unfold wirelessref43_IsChar
  rw [rIs F _ _ (by decide) (by decide),bs]
theorem rdeclares (F:Nat) (u:Tx0):q2c F u=some (decl u):=by
  unfold q2c decl isv
  simp only [rIs F u 10240 (by decide) (by decide),rIs F u 10241 (by decide) (by decide),rIs F u 10242 (by decide) (by decide),rIs F u 10243 (by decide) (by decide),bs]
  cases isN u 10240 <;> cases isN u 10241 <;> cases isN u 10242 <;> simp
theorem rkept (F:Nat) (u:Tx0):q2d F u=some (resv u):=by
  unfold q2d resv
  rw [rdeclares,bs,rIs F _ _ (by decide) (by decide)]
  cases decl u <;> simp
def UZ:Tx0:=Tx0.mk 0 0
def decU (b:List Int):Tx0×Int:=
  if b.length=2 then (sht (num b),0)
  else if b.length<16 then (UZ,3)
  else if b.length > 16 then (UZ,2)
  else if (numb (Tx0.mk (num (b.drop 8)) (num (b.take 8)))).2=true then (UZ,2)
  else (Tx0.mk (num (b.drop 8)) (num (b.take 8)),0)
theorem num2 (x y:Int):num [x,y]=x+256 * y:=by simp [num]
theorem uok16 {b:List Int} (hb:∀x∈b,Byte x) (hl:b.length=16):UOk (Tx0.mk (num (b.drop 8)) (num (b.take 8))):=by
  have h1:∀x∈b.drop 8,Byte x:=fun x hx=>hb x (List.mem_of_mem_drop hx)
  have h2:∀x∈b.take 8,Byte x:=fun x hx=>hb x (List.mem_of_mem_take hx)
  have h3:=num_lt h1
  have h4:=num_lt h2
  rw [show (b.drop 8).length=8 from by simp [hl]] at h3
  rw [show (b.take 8).length=8 from by simp [hl]] at h4
  exact⟨num_nonneg h1,h3,num_nonneg h2,h4⟩
theorem decU_ok {b:List Int} (hb:∀x∈b,Byte x):UOk (decU b).1:=by
  have hz:UOk UZ:=⟨by decide,by decide,by decide,by decide⟩
  unfold decU
  split
  · rename_i h
    match b,h,hb with
    | [x,y],_,hb=>
      have hx:=hb x (by simp)
      have hy:=hb y (by simp)
      obtain⟨x0,x1⟩:=hx
      obtain⟨y0,y1⟩:=hy
      rw [num2]
      exact sht_ok (by omega) (by omega)
  · split
    · exact hz
    · split
      · exact hz
      · split
        · exact hz
        · exact uok16 hb (by omega)
theorem rdecode (F:Nat) {b:List Int} (hb:∀x∈b,Byte x) (hF:20<F):wirelessref41_Decode F b=some (decU b):=by
  unfold wirelessref41_Decode decU
  by_cases h2:b.length=2
  · rw [if_pos (show (len b == 2)=true from by simp [len]; omega),if_pos h2]
    match b,h2,hb with
    | [x,y],_,hb=>
      have h:=rnum_ok F [x,y] [x,y] 0 (by simp; omega) hb (by simp) (by omega) (by simp)
      have hx:=hb x (by simp)
      have hy:=hb y (by simp)
      obtain⟨x0,x1⟩:=hx
      obtain⟨y0,y1⟩:=hy
      have h':wirelessref23_Num F [x,y] 0 2=some (num [x,y]):=h
      rw [h',bs]
      rw [num2,wu16_id (by omega) (by omega),rshort F _ (by omega) (by omega),bs]
  · rw [if_neg (show ¬ (len b == 2)=true from by simp [len]; omega),if_neg h2]
    by_cases h16:b.length<16
    · rw [if_pos (decide_eq_true (show len b<16 by rw [lN]; omega)),if_pos h16]; rfl
    · rw [if_neg (df (show ¬ len b<16 by rw [lN]; omega)),if_neg h16]
      by_cases h17:b.length > 16
      · rw [if_pos (decide_eq_true (show len b > 16 by rw [lN]; omega)),if_pos h17]; rfl
      · rw [if_neg (df (show ¬ len b > 16 by rw [lN]; omega)),if_neg h17]
        have hl:b.length=16:=by omega
        have h1:∀x∈b.drop 8,Byte x:=fun x hx=>hb x (List.mem_of_mem_drop hx)
        have h2:∀x∈b.take 8,Byte x:=fun x hx=>hb x (List.mem_of_mem_take hx)
        have e1:(b.drop 8).length=8:=by simp [hl]
        have e2:(b.take 8).length=8:=by simp [hl]
        have a:=rnum_ok F b (b.take 8) 0 (by omega) h2 (by omega) (by omega) (by
          intro i hi
          rw [List.getElem?_take,if_pos (by omega),Nat.zero_add])
        have c:=rnum_ok F b (b.drop 8) 8 (by omega) h1 (by omega) (by omega) (by
          intro i hi
          rw [List.getElem?_drop])
        rw [e2] at a
        rw [e1] at c
        have a':wirelessref23_Num F b 0 8=some (num (b.take 8)):=a
        have c':wirelessref23_Num F b 8 8=some (num (b.drop 8)):=c
        rw [a',bs,c',bs,rnumber F (uok16 hb hl),bs]
        split <;> rfl
theorem ior_num {b:List Int} {i:Nat} (hb:∀x∈b,Byte x) (hi:i<8) (x:Int) (hx:b[i]? = some x):ior .u64 (num (b.take i)) (x * 256 ^ i)=num (b.take (i+1)):=by
  have hl:(b.take i).length=i:=by
    have:=(gS.1 hx).1
    simp; omega
  have ht:∀x∈b.take i,Byte x:=fun x hx=>hb x (List.mem_of_mem_take hx)
  have h1:=num_lt ht
  rw [hl] at h1
  rw [ior_add _ _ i hi (num_nonneg ht) h1 (hb x (List.mem_of_getElem? hx)),List.take_add_one,hx,num_append,hl]
  simp only [Option.toList_some,num]
  rw [Int.mul_zero,Int.add_zero,Int.mul_comm]
theorem udecode (F:Nat) {b:List Int} (hb:∀x∈b,Byte x) (hF:20<F):q1q F b=some (decU b):=by
  unfold q1q decU
  by_cases h2:b.length=2
  · rw [if_pos (show (len b == 2)=true from by simp [len]; omega),if_pos h2]
    match b,h2,hb with
    | [x,y],_,hb=>
      have hx:=hb x (by simp)
      have hy:=hb y (by simp)
      rw [show idx [x,y] 0=some x from rfl,show idx [x,y] 1=some y from rfl,bs,bs,word16 hx hy,num2]
      obtain⟨x0,x1⟩:=hx
      obtain⟨y0,y1⟩:=hy
      rw [ushort F _ (by omega) (by omega),bs]
      rfl
  · rw [if_neg (show ¬ (len b == 2)=true from by simp [len]; omega),if_neg h2]
    by_cases h16:b.length<16
    · rw [if_pos (decide_eq_true (show len b<16 by rw [lN]; omega)),if_pos h16]; rfl
    · rw [if_neg (df (show ¬ len b<16 by rw [lN]; omega)),if_neg h16]
      by_cases h17:b.length > 16
      · rw [if_pos (decide_eq_true (show len b > 16 by rw [lN]; omega)),if_pos h17]; rfl
      · rw [if_neg (df (show ¬ len b > 16 by rw [lN]; omega)),if_neg h17]
        have hl:b.length=16:=by omega
        have h1:∀x∈b.drop 8,Byte x:=fun x hx=>hb x (List.mem_of_mem_drop hx)
        have:=iter_count (body:=fun s:Tx0×Int=>q1p F b s.1 s.2) (fun i=>(Tx0.mk (num ((b.drop 8).take i)) (num (b.take i)),(i:Int))) 8 (Tx0.mk (num (b.drop 8)) (num (b.take 8))) (by
          intro i hi
          have hx:b[i]? = some b[i]:=gE (by omega)
          have hy:b[8+i]? = some b[8+i]:=gE (by omega)
          have hy':(b.drop 8)[i]? = some b[8+i]:=by rw [List.getElem?_drop]; exact hy
          show q1p F b _ (i:Int)=_
          unfold q1p
          rw [if_pos (by simp; omega),dN,hx,bs,shl_bytes (hb _ (List.mem_of_getElem? hx)) i hi,bs]
          unfold q5s
          rw [w64_id (x:=8+(i:Int)) (by omega) (by omega),show (8:Int)+i=((8+i:Nat):Int) from by omega,dN,hy,bs,shl_bytes (hb _ (List.mem_of_getElem? hy)) i hi,bs,wN i (by omega)]
          simp only
          rw [ior_num hb hi _ hx,ior_num h1 hi _ hy']) (by
          show q1p F b _ ((8:Nat):Int)=_
          unfold q1p
          rw [if_neg (by simp),show (b.drop 8).take 8=b.drop 8 from List.take_of_length_le (by simp [hl])]) F 0 (by omega) (by omega)
        rw [List.take_zero,List.take_zero] at this
        have h0:((Tx0.mk (num []) (num []),((0:Nat):Int)):Tx0×Int)=(Tx0.mk 0 0,0):=rfl
        rw [h0] at this
        rw [this,bs]
        unfold q5r
        rw [unumber F (uok16 hb hl),bs]
        split <;> rfl
end V
end Go.Proofs.YtoahakdkgefgiaaGreat

namespace Go.Proofs.YtoahakdkgefgiaaGreat
namespace V
theorem dt {p:Prop} [Decidable p] (h:p):decide p=true:=decide_eq_true h
theorem iter_sim {S1 S2 O1 O2:Type} {b1:S1→Option (Out S1 O1)} {b2:S2→Option (Out S2 O2)} (R:S1→S2→Prop) (Q:O1→O2→Prop) (m:S1→Nat)
    (h:∀s1 s2,R s1 s2→(∃t1 t2,b1 s1=some (.next t1)∧b2 s2=some (.next t2)∧R t1 t2∧m t1<m s1)∨∃o1 o2,b1 s1=some (.done o1)∧b2 s2=some (.done o2)∧Q o1 o2) :
    ∀(F:Nat) (s1:S1) (s2:S2),R s1 s2→m s1<F→∃o1 o2,iter b1 F s1=some o1∧iter b2 F s2=some o2∧Q o1 o2
  | 0,_,_,_,hF=>by omega
  | F+1,s1,s2,hR,hF=>by
    rcases h s1 s2 hR with ⟨t1,t2,h1,h2,hR',hm⟩ | ⟨o1,o2,h1,h2,hq⟩
    · obtain⟨o1,o2,h3,h4,hq⟩:=iter_sim R Q m h F t1 t2 hR' (by omega)
      exact⟨o1,o2,by rw [iter_step h1,h3],by rw [iter_step h2,h4],hq⟩
    · exact⟨o1,o2,iter_stop h1,iter_stop h2,hq⟩
structure AOk (a:Tx1):Prop where
  h0:0≤a.Handle
  h1:a.Handle<65536
  u:UOk a.fT
  b:∀x∈a.Value,Byte x
  l:a.Value.length≤140737488355328
def prt (b:List Int):Int×Int×Tx0×Bool:=
  if b.length<3 then (0,0,UZ,false)
  else (num (b.take 1),num ((b.drop 1).take 2),(decU (b.drop 3)).1,(decU (b.drop 3)).2 == 0)
theorem sub_drop {α:Type} (l:List α) (k:Nat) (h:k≤l.length):sub l (k:Int) (len l)=some (l.drop k):=by
  rw [lN,sub_nat l k l.length h (by omega),List.take_length]
theorem rparts (F:Nat) {b:List Int} (hb:∀x∈b,Byte x) (hF:20<F):wirelessref43_CharParts F b=some (prt b):=by
  unfold wirelessref43_CharParts prt
  by_cases h3:b.length<3
  · rw [if_pos (dt (show len b<3 by rw [lN]; omega)),if_pos h3]; rfl
  · rw [if_neg (df (show ¬ len b<3 by rw [lN]; omega)),if_neg h3]
    have hs:=sub_drop b 3 (by omega)
    rw [show ((3:Nat):Int)=3 from rfl] at hs
    rw [hs,bs,rdecode F (fun x hx=>hb x (List.mem_of_mem_drop hx)) hF,bs]
    match b,h3,hb with
    | x::y::z::r,_,hb=>
      obtain⟨x0,x1⟩:=hb x (by simp)
      obtain⟨y0,y1⟩:=hb y (by simp)
      obtain⟨z0,z1⟩:=hb z (by simp)
      have h:=rnum_ok F (x::y::z::r) [y,z] 1 (by simp; omega) (fun w hw=>hb w (by simp at hw ⊢; rcases hw with rfl | rfl <;> simp)) (by simp) (by omega) (by
        intro i hi
        match i,hi with
        | 0,_=>rfl
        | 1,_=>rfl)
      have h':wirelessref23_Num F (x::y::z::r) 1 2=some (num [y,z]):=h
      rw [show idx (x::y::z::r) 0=some x from rfl,bs,h',bs,num2,wu16_id (by omega) (by omega),w64_id (by omega) (by omega)]
      unfold wirelessref43_CharParts_j1
      simp [num]
theorem udescribed (F:Nat) {b:List Int} (hb:∀x∈b,Byte x) (hF:20<F):q30 F b=some (if (prt b).2.2.2=true then prt b else (0,0,UZ,false)):=by
  unfold q30 prt
  by_cases h3:b.length<3
  · rw [if_pos (dt (show len b<3 by rw [lN]; omega)),if_pos h3]; rfl
  · rw [if_neg (df (show ¬ len b<3 by rw [lN]; omega)),if_neg h3]
    have hs:=sub_drop b 3 (by omega)
    rw [show ((3:Nat):Int)=3 from rfl] at hs
    rw [hs,bs,udecode F (fun x hx=>hb x (List.mem_of_mem_drop hx)) hF,bs]
    by_cases he:(decU (b.drop 3)).2=0
    · rw [if_neg (by simp [he]),if_pos (show ((decU (b.drop 3)).2 == 0)=true by simpa using he)]
      match b,h3,hb with
      | x::y::z::r,_,hb=>
        have hx:=hb x (by simp)
        have hy:=hb y (by simp)
        have hz:=hb z (by simp)
        obtain⟨x0,x1⟩:=hx
        rw [show idx (x::y::z::r) 0=some x from rfl,show idx (x::y::z::r) 1=some y from rfl,show idx (x::y::z::r) 2=some z from rfl,bs,bs,bs,word16 hy hz,w64_id (by omega) (by omega)]
        unfold q5t
        simp only [List.drop_succ_cons,List.drop_zero] at he ⊢
        rw [he]
        simp [num]
    · rw [if_pos (by simp [he]),if_neg (show ¬ ((decU (b.drop 3)).2 == 0)=true by simpa using he)]; rfl
def cw (db:List Tx1) (i:Nat) (a:Tx1):Bool:=match db[i+1]? with
  | none=>true
  | some b=>(!(prt a.Value).2.2.2||resv (prt a.Value).2.2.1)||(b.Handle != (prt a.Value).2.1 || !(b.fT.High == (prt a.Value).2.2.1.High&&b.fT.Low == (prt a.Value).2.2.1.Low))
def wrg (db:List Tx1) (i:Nat) (p:Tx9) (a:Tx1):Bool:=
  if (((i:Int) == 0 && !isv a.fT)||(decl a.fT&&(iand .i64 a.Perms 2 != 0)))=true then true
  else if isv a.fT=true then (decU a.Value).2 != 0
  else if isN a.fT 10243=true then cw db i a
  else if isN a.fT 10498=true then ((len a.Value != 2 || !p.char)||p.config)
  else false
theorem prt_ok {b:List Int} (hb:∀x∈b,Byte x):UOk (prt b).2.2.1:=by
  unfold prt
  split
  · exact⟨by decide,by decide,by decide,by decide⟩
  · exact decU_ok fun x hx=>hb x (List.mem_of_mem_drop hx)
theorem uwrong (F:Nat) {db:List Tx1} {i:Nat} {a:Tx1} (p:Tx9) (hi:db[i]? = some a) (hn:db.length≤9000000000000000) (ha:AOk a) (hF:20<F):q32 F db i p=some (wrg db i p a):=by
  have hil:=(gS.1 hi).1
  unfold q32 wrg
  rw [dN,hi,bs,service_ok F ha.u (by omega),declaration_ok F ha.u (by omega)]
  have hj:∀z:Bool,q3t F db i p a z=some (if z=true then true else if isv a.fT=true then (decU a.Value).2 != 0 else if isN a.fT 10243=true then cw db i a else if isN a.fT 10498=true then ((len a.Value != 2 || !p.char)||p.config) else false):=by
    intro z
    unfold q3t
    cases z with
    | true=>rfl
    | false=>
      rw [if_neg (by decide),if_neg (by decide),service_ok F ha.u (by omega),bs]
      by_cases hs:isv a.fT=true
      · rw [if_pos hs,if_pos hs,udecode F ha.b hF,bs]
      · rw [if_neg hs,if_neg hs,is1 F ha.u 10243 (by omega) (by decide) (by decide),bs]
        by_cases hc:isN a.fT 10243=true
        · rw [if_pos hc,if_pos hc,udescribed F ha.b hF,bs]
          unfold cw
          have hw:w64 ((i:Int)+1)=((i+1:Nat):Int):=wN i (by omega)
          by_cases ho:(prt a.Value).2.2.2=true
          · rw [if_pos ho,if_neg (by rw [ho]; decide),reserved_ok F (prt_ok ha.b) (by omega),bs,hw,ho]
            by_cases hl:i+1<db.length
            · rw [gE hl,dN,gE hl]
              simp only [bs]
              by_cases hr:resv (prt a.Value).2.2.1=true
              · rw [if_pos (by rw [hr]; rfl),hr]; rfl
              · rw [if_neg (by rw [(Bool.not_eq_true _).mp hr,Bool.false_or]; exact df (by rw [lN]; omega)),(Bool.not_eq_true _).mp hr]
                by_cases hh:(db[i+1].Handle != (prt a.Value).2.1)=true
                · rw [if_pos hh,hh]; rfl
                · rw [if_neg hh,(Bool.not_eq_true _).mp hh]; rfl
            · rw [List.getElem?_eq_none (by omega),if_pos (by
                rw [Bool.or_eq_true]
                exact .inr (dt (by rw [lN]; omega)))]
              rfl
          · rw [if_neg ho,if_pos (by rfl),if_pos (by rfl),(Bool.not_eq_true _).mp ho]
            cases db[i+1]? <;> rfl
        · rw [if_neg hc,if_neg hc,is1 F ha.u 10498 (by omega) (by decide) (by decide),bs]
          by_cases hg:isN a.fT 10498=true
          · rw [if_pos hg,if_pos hg]
          · rw [if_neg hg,if_neg hg]
  by_cases h0:((i:Int) == 0)=true
  · rw [if_pos h0,bs,bs,h0,Bool.true_and]
    by_cases hs:isv a.fT=true
    · rw [hs]
      simp only [Bool.not_true,Bool.false_eq_true,if_false,bs,Bool.false_or]
      rw [hj,hs]
      simp
    · rw [(Bool.not_eq_true _).mp hs]
      simp only [Bool.not_false,if_true,Bool.true_or]
      rw [hj]
      rfl
  · rw [if_neg h0,bs,if_neg (by decide),bs,(Bool.not_eq_true _).mp h0,Bool.false_and,Bool.false_or,hj]
def stepP (p:Tx9) (u:Tx0):Tx9:=
  if isv u=true then Tx9.mk false false
  else if isN u 10243=true then Tx9.mk true false
  else if isN u 10498=true then { p with config:=true }
  else p
def plc (l:List Tx1):Tx9:=l.foldl (fun p a=>stepP p a.fT) (Tx9.mk false false)
theorem plc_snoc (l:List Tx1) (a:Tx1):plc (l++[a])=stepP (plc l) a.fT:=by simp [plc]
def cho (db:List Tx1):Nat→Int
  | 0=>-1
  | k+1=>match db[k]? with
    | none=>-1
    | some a=>if isN a.fT 10243=true then (k:Int) else if isv a.fT=true then -1 else cho db k
theorem isN_ne {u:Tx0} {m n:Int} (h:isN u m=true) (hn:m≠n):isN u n=false:=by
  rw [isN_eq h,isN_sh]
  exact beq_false_of_ne hn
theorem char_not {u:Tx0} (h:isN u 10243=true):isv u=false∧isN u 10498=false:=by
  unfold isv
  rw [isN_ne h (by decide),isN_ne h (by decide),isN_ne h (by decide)]
  exact⟨rfl,rfl⟩
theorem conf_not {u:Tx0} (h:isN u 10498=true):isv u=false∧isN u 10243=false:=by
  unfold isv
  rw [isN_ne h (by decide),isN_ne h (by decide),isN_ne h (by decide)]
  exact⟨rfl,rfl⟩
theorem cho_plc (db:List Tx1):∀k,k≤db.length→(cho db k = -1∧(plc (db.take k)).char=false)∨∃c:Nat,c<k∧cho db k=c∧(plc (db.take k)).char=true∧((db.take k).drop c).any (fun a=>isN a.fT 10498)=(plc (db.take k)).config
  | 0,_=>.inl ⟨rfl,rfl⟩
  | k+1,hk=>by
    have hx:db[k]? = some db[k]:=gE hk
    have ht:db.take (k+1)=db.take k++[db[k]]:=by rw [List.take_add_one,hx]; rfl
    have ih:=cho_plc db k (by omega)
    have hl:(db.take k).length=k:=by simp; omega
    rw [ht,plc_snoc]
    simp only [cho,hx]
    unfold stepP
    by_cases hc:isN db[k].fT 10243=true
    · obtain⟨h1,h2⟩:=char_not hc
      rw [if_pos hc,h1,if_neg (by decide),if_pos hc]
      refine .inr ⟨k,by omega,rfl,rfl,?_⟩
      rw [List.drop_append_of_le_length (by omega),List.drop_of_length_le (by omega)]
      simp [h2]
    · rw [if_neg hc]
      by_cases hs:isv db[k].fT=true
      · rw [if_pos hs,if_pos hs]
        exact .inl ⟨rfl,rfl⟩
      · rw [if_neg hs,if_neg hs,if_neg hc]
        by_cases hg:isN db[k].fT 10498=true
        · rw [if_pos hg]
          rcases ih with ⟨h1,h2⟩ | ⟨c,h0,h1,h2,h3⟩
          · exact .inl ⟨h1,h2⟩
          · refine .inr ⟨c,by omega,h1,h2,?_⟩
            rw [List.drop_append_of_le_length (by omega),List.any_append]
            simp [hg]
        · rw [if_neg hg]
          rcases ih with ⟨h1,h2⟩ | ⟨c,h0,h1,h2,h3⟩
          · exact .inl ⟨h1,h2⟩
          · refine .inr ⟨c,by omega,h1,h2,?_⟩
            rw [List.drop_append_of_le_length (by omega),List.any_append,h3]
            simp [(Bool.not_eq_true _).mp hg]
theorem rcharOf (F:Nat) (db:List Tx1) (i:Nat) (hi:i<db.length) (hF:i+5<F) (hn:db.length≤9000000000000000):wirelessref43_charOf F db i=some (cho db (i+1)):=by
  have key:∀(k f:Nat),k≤db.length→k<f→∃o,iter (fun s=>wirelessref43_charOf_l1 F db s) f ((k:Int) - 1)=some o∧(o = .inl ()∧cho db k = -1∨o = .inr (cho db k)):=by
    intro k
    induction k with
    | zero=>
      intro f _ hf
      obtain⟨f,rfl⟩:∃g,f=g+1:=⟨f - 1,by omega⟩
      exact⟨.inl (),iter_stop (by
        unfold wirelessref43_charOf_l1
        rw [if_neg (by simp)]),.inl ⟨rfl,rfl⟩⟩
    | succ k ih=>
      intro f hk hf
      obtain⟨f,rfl⟩:∃g,f=g+1:=⟨f - 1,by omega⟩
      have hx:db[k]? = some db[k]:=gE hk
      have e:((k+1:Nat):Int) - 1=(k:Int):=by omega
      rw [e]
      have hb:wirelessref43_charOf_l1 F db (k:Int)=(if isN db[k].fT 10243=true then some (.done (.inr (k:Int))) else if isv db[k].fT=true then some (.done (.inr (-1))) else some (.next ((k:Int) - 1))):=by
        unfold wirelessref43_charOf_l1
        rw [if_pos (dt (by omega)),dN,hx,bs,rIsChar,bs,bs,rIsService,bs,w64_id (by omega) (by omega)]
      have hcho:cho db (k+1)=if isN db[k].fT 10243=true then (k:Int) else if isv db[k].fT=true then -1 else cho db k:=by
        simp only [cho,hx]
      by_cases hc:isN db[k].fT 10243=true
      · rw [if_pos hc] at hb hcho
        exact⟨_,iter_stop hb,.inr (by rw [hcho])⟩
      · rw [if_neg hc] at hb hcho
        by_cases hs:isv db[k].fT=true
        · rw [if_pos hs] at hb hcho
          exact⟨_,iter_stop hb,.inr (by rw [hcho])⟩
        · rw [if_neg hs] at hb hcho
          obtain⟨o,h1,h2⟩:=ih f (by omega) (by omega)
          exact⟨o,by rw [iter_step hb,h1],by rw [hcho]; exact h2⟩
  unfold wirelessref43_charOf
  obtain⟨o,h,h2⟩:=key (i+1) F (by omega) (by omega)
  rw [show ((i+1:Nat):Int) - 1=(i:Int) from by omega] at h
  rw [h,bs]
  rcases h2 with ⟨rfl,h2⟩ | rfl
  · rw [h2]; rfl
  · rfl
theorem rconfig (F:Nat) {db:List Tx1} {i:Nat} {a:Tx1} (hi:db[i]? = some a) (hg:isN a.fT 10498=true) (hn:db.length≤9000000000000000) (hF:db.length+20<F):wirelessref43_configWrong F db i=some ((len a.Value != 2 || !(plc (db.take i)).char)||(plc (db.take i)).config):=by
  have hil:=(gS.1 hi).1
  unfold wirelessref43_configWrong
  rw [rcharOf F db i hil (by omega) hn,bs,dN,hi,bs]
  obtain⟨h1,h2⟩:=conf_not hg
  have hc:cho db (i+1)=cho db i:=by
    simp only [cho,hi,h1,h2,Bool.false_eq_true,if_false]
  rw [hc]
  by_cases hl:(len a.Value != 2)=true
  · rw [hl,Bool.true_or,if_pos rfl]; rfl
  · rw [(Bool.not_eq_true _).mp hl,Bool.false_or,Bool.false_or]
    rcases cho_plc db i (by omega) with ⟨h3,h4⟩ | ⟨c,h0,h3,h4,h5⟩
    · rw [h3,h4,if_pos (by decide)]; rfl
    · rw [h3,h4,if_neg (df (by omega))]
      have:=iter_any (body:=fun s=>wirelessref43_configWrong_l1 F db i s) (l:=db.take i) (p:=fun a=>isN a.fT 10498) (o:=Sum.inr true) (e:=Sum.inl ()) (by
        intro k x hx
        have hkl:=(gS.1 hx).1
        rw [List.length_take] at hkl
        rw [List.getElem?_take,if_pos (by omega)] at hx
        show wirelessref43_configWrong_l1 F db i (k:Int)=_
        unfold wirelessref43_configWrong_l1
        rw [if_pos (dt (by omega)),dN,hx,bs,rIs F _ _ (by decide) (by decide),bs,wN k (by omega)]
        split <;> rfl) (by
        rw [List.length_take,Nat.min_eq_left (by omega)]
        show wirelessref43_configWrong_l1 F db i (i:Int)=_
        unfold wirelessref43_configWrong_l1
        rw [if_neg (df (by omega))]) F c (by rw [List.length_take]; omega) (by rw [List.length_take]; omega)
      rw [this,h5,bs]
      cases (plc (db.take i)).config <;> rfl
theorem rcharWrong (F:Nat) {db:List Tx1} {i:Nat} {a:Tx1} (hi:db[i]? = some a) (hn:db.length≤9000000000000000) (ha:AOk a) (hF:20<F):wirelessref43_charWrong F db i=some (cw db i a):=by
  have hil:=(gS.1 hi).1
  unfold wirelessref43_charWrong cw
  rw [dN,hi,bs,rparts F ha.b hF,bs,rkept]
  have hw:w64 ((i:Int)+1)=((i+1:Nat):Int):=wN i (by omega)
  have hz:((if (!(prt a.Value).2.2.2)=true then some true else (some (resv (prt a.Value).2.2.1)).bind fun x_14=>some x_14):Option Bool)=some (!(prt a.Value).2.2.2||resv (prt a.Value).2.2.1):=by
    cases (prt a.Value).2.2.2 <;> rfl
  rw [hz,bs,hw,dN]
  by_cases hl:i+1<db.length
  · rw [gE hl]
    simp only [bs]
    by_cases hr:(!(prt a.Value).2.2.2||resv (prt a.Value).2.2.1)=true
    · rw [hr,Bool.true_or,if_pos rfl,Bool.true_or]
    · rw [(Bool.not_eq_true _).mp hr,Bool.false_or,if_neg (df (by rw [lN]; omega)),Bool.false_or]
      by_cases hh:(db[i+1].Handle != (prt a.Value).2.1)=true
      · rw [if_pos hh,hh]; rfl
      · rw [if_neg hh,(Bool.not_eq_true _).mp hh]; rfl
  · rw [List.getElem?_eq_none (by omega),if_pos (by
      rw [Bool.or_eq_true]
      exact .inr (dt (by rw [lN]; omega)))]
theorem rwrong (F:Nat) {db:List Tx1} {i:Nat} {a:Tx1} (hi:db[i]? = some a) (hn:db.length≤9000000000000000) (ha:AOk a) (hF:db.length+20<F):wirelessref43_wrong F db i=some (wrg db i (plc (db.take i)) a):=by
  unfold wirelessref43_wrong wrg
  rw [dN,hi,bs,rIsService,rdeclares]
  have hz:((if ((i:Int) == 0)=true then (some (isv a.fT)).bind fun x_25=>some !x_25 else some false):Option Bool)=some ((i:Int) == 0 && !isv a.fT):=by
    cases ((i:Int) == 0) <;> rfl
  rw [hz,bs]
  have hz2:((if ((i:Int) == 0 && !isv a.fT)=true then some true else (some (decl a.fT)).bind fun x_22=>if x_22=true then some (iand IntKind.i64 a.Perms 2 != 0) else some false):Option Bool)=some (((i:Int) == 0 && !isv a.fT)||(decl a.fT&&(iand .i64 a.Perms 2 != 0))):=by
    cases ((i:Int) == 0 && !isv a.fT) <;> cases decl a.fT <;> rfl
  rw [hz2,bs]
  by_cases hq:(((i:Int) == 0 && !isv a.fT)||(decl a.fT&&(iand .i64 a.Perms 2 != 0)))=true
  · rw [if_pos hq,if_pos hq]
  · rw [if_neg hq,if_neg hq,bs]
    by_cases hs:isv a.fT=true
    · rw [if_pos hs,if_pos hs,rdecode F ha.b (by omega),bs]
    · rw [if_neg hs,if_neg hs,rIsChar,bs,rcharWrong F hi hn ha (by omega),rIs F _ _ (by decide) (by decide)]
      by_cases hc:isN a.fT 10243=true
      · rw [if_pos hc,if_pos hc,bs,bs,(char_not hc).2]
        cases cw db i a <;> rfl
      · rw [if_neg hc,if_neg hc,bs,if_neg (by decide),bs]
        by_cases hg:isN a.fT 10498=true
        · rw [if_pos hg,if_pos hg,rconfig F hi hg hn hF,bs,bs]
        · rw [if_neg hg,if_neg hg,bs]
theorem check_same (F:Nat) (db:List Tx1) (hdb:∀a∈db,AOk a) (hn:db.length≤9000000000000000) (hF:db.length+20<F):∃e,q1r F db=some e∧wirelessref43_Check F db=some e:=by
  unfold q1r wirelessref43_Check
  by_cases hl:len db > 1000
  · rw [if_pos (dt hl),if_pos (dt hl)]
    exact⟨_,rfl,rfl⟩
  · rw [if_neg (df hl),if_neg (df hl)]
    obtain⟨o1,o2,h1,h2,h3⟩:=iter_sim (b1:=fun s:Int×Tx9×Int=>q2g F db s.1 s.2.1 s.2.2) (b2:=fun s:Int×Int=>wirelessref43_Check_l1 F db s.1 s.2)
      (fun s t=>∃i:Nat,i≤db.length∧s=(t.1,plc (db.take i),(i:Int))∧t.2=(i:Int)) (fun a b=>a=b) (fun s=>db.length - s.2.2.toNat) (by
      rintro s ⟨last,x⟩ ⟨i,hi,rfl,hx⟩
      simp only at hx
      subst hx
      show (∃t1 t2,q2g F db last (plc (db.take i)) (i:Int)=some (.next t1)∧wirelessref43_Check_l1 F db last (i:Int)=some (.next t2)∧_)∨∃o1 o2,q2g F db last (plc (db.take i)) (i:Int)=some (.done o1)∧wirelessref43_Check_l1 F db last (i:Int)=some (.done o2)∧_
      unfold q2g wirelessref43_Check_l1
      by_cases hin:i<db.length
      · have hxa:db[i]? = some db[i]:=gE hin
        have ha:=hdb _ (gM hin)
        generalize hq:db[i]=a at hxa ha
        rw [if_pos (dt (show (i:Int)<len db by rw [lN]; omega)),if_pos (dt (show (i:Int)<len db by rw [lN]; omega)),dN,hxa]
        simp only [bs]
        by_cases h1:a.Handle≤last
        · rw [if_pos (dt h1),if_pos (dt h1)]
          exact .inr ⟨_,_,rfl,rfl,rfl⟩
        · rw [if_neg (df h1),if_neg (df h1)]
          have hp:((if decide (a.Perms<0)=true then some true else some (decide (a.Perms > 15))):Option Bool)=some (decide (a.Perms<0)||decide (a.Perms > 15)):=by
            cases decide (a.Perms<0) <;> rfl
          rw [hp,bs]
          by_cases h2:(decide (a.Perms<0)||decide (a.Perms > 15))=true
          · rw [if_pos h2,if_pos h2]
            exact .inr ⟨_,_,rfl,rfl,rfl⟩
          · rw [if_neg h2,if_neg h2]
            by_cases h3:len a.Value > 512
            · rw [if_pos (dt h3),if_pos (dt h3)]
              exact .inr ⟨_,_,rfl,rfl,rfl⟩
            · rw [if_neg (df h3),if_neg (df h3),uwrong F _ hxa hn ha (by omega),rwrong F hxa hn ha hF,bs,bs]
              by_cases h4:wrg db i (plc (db.take i)) a=true
              · rw [if_pos h4,if_pos h4]
                exact .inr ⟨_,_,rfl,rfl,rfl⟩
              · rw [if_neg h4,if_neg h4,service_ok F ha.u (by omega),is1 F ha.u 10243 (by omega) (by decide) (by decide),is1 F ha.u 10498 (by omega) (by decide) (by decide)]
                simp only [bs]
                have ht:plc (db.take (i+1))=stepP (plc (db.take i)) a.fT:=by
                  rw [List.take_add_one,hxa]
                  exact plc_snoc _ _
                have hw:=wN i (by omega)
                refine .inl ⟨(a.Handle,plc (db.take (i+1)),((i+1:Nat):Int)),(a.Handle,((i+1:Nat):Int)),?_,by rw [hw],⟨i+1,by omega,rfl,rfl⟩,by simp only; omega⟩
                rw [ht]
                unfold stepP q33
                rw [hw]
                split
                · rfl
                · split
                  · rfl
                  · split <;> rfl
      · rw [if_neg (df (show ¬ (i:Int)<len db by rw [lN]; omega)),if_neg (df (show ¬ (i:Int)<len db by rw [lN]; omega))]
        exact .inr ⟨_,_,rfl,rfl,rfl⟩) F (0,Tx9.mk false false,0) (0,0) ⟨0,by omega,rfl,rfl⟩ (by simp only; omega)
    rw [h1,h2,h3]
    simp only [bs]
    cases o2 with
    | inl u=>exact⟨_,rfl,rfl⟩
    | inr e=>exact⟨_,rfl,rfl⟩
end V
end Go.Proofs.YtoahakdkgefgiaaGreat

namespace Go.Proofs.YtoahakdkgefgiaaGreat
namespace V
theorem rcheck_good (F:Nat) (db:List Tx1) (hdb:∀a∈db,AOk a) (hn:db.length≤9000000000000000) (hF:db.length+20<F) (h:wirelessref43_Check F db=some 0):(∀i a b,db[i]? = some a→db[i+1]? = some b→a.Handle<b.Handle)∧(∀a,db[0]? = some a→isv a.fT=true)∧∀a∈db,0<a.Handle:=by
  unfold wirelessref43_Check at h
  by_cases hl:len db > 1000
  · rw [if_pos (dt hl)] at h; cases h
  · rw [if_neg (df hl)] at h
    obtain⟨o,h1,h2⟩:=iter_by (body:=fun s:Int×Int=>wirelessref43_Check_l1 F db s.1 s.2)
      (fun s=>∃i:Nat,s.2=(i:Int)∧i≤db.length∧0≤s.1∧(∀j a b,j+1<i→db[j]? = some a→db[j+1]? = some b→a.Handle<b.Handle)∧(∀a,0<i→db[0]? = some a→isv a.fT=true)∧(∀j a,j+1=i→db[j]? = some a→a.Handle=s.1)∧(∀a∈db.take i,0<a.Handle))
      (fun o=>o = .inl ()→(∀i a b,db[i]? = some a→db[i+1]? = some b→a.Handle<b.Handle)∧(∀a,db[0]? = some a→isv a.fT=true)∧∀a∈db,0<a.Handle) (fun s=>db.length - s.2.toNat) (by
      rintro⟨last,x⟩ ⟨i,hx,hi,hp,hs,hf,hlast,hpos⟩
      simp only at hx hp hlast
      subst hx
      show (∃s',wirelessref43_Check_l1 F db last (i:Int)=some (.next s')∧_)∨∃o,wirelessref43_Check_l1 F db last (i:Int)=some (.done o)∧_
      unfold wirelessref43_Check_l1
      by_cases hin:i<db.length
      · have hxa:db[i]? = some db[i]:=gE hin
        have ha:=hdb _ (gM hin)
        generalize hq:db[i]=a at hxa ha
        rw [if_pos (dt (show (i:Int)<len db by rw [lN]; omega)),dN,hxa]
        simp only [bs]
        by_cases h1:a.Handle≤last
        · rw [if_pos (dt h1)]
          exact .inr ⟨_,rfl,fun h=>by cases h⟩
        · rw [if_neg (df h1)]
          have hp2:((if decide (a.Perms<0)=true then some true else some (decide (a.Perms > 15))):Option Bool)=some (decide (a.Perms<0)||decide (a.Perms > 15)):=by
            cases decide (a.Perms<0) <;> rfl
          rw [hp2,bs]
          by_cases h2:(decide (a.Perms<0)||decide (a.Perms > 15))=true
          · rw [if_pos h2]
            exact .inr ⟨_,rfl,fun h=>by cases h⟩
          · rw [if_neg h2]
            by_cases h3:len a.Value > 512
            · rw [if_pos (dt h3)]
              exact .inr ⟨_,rfl,fun h=>by cases h⟩
            · rw [if_neg (df h3),rwrong F hxa hn ha hF,bs]
              by_cases h4:wrg db i (plc (db.take i)) a=true
              · rw [if_pos h4]
                exact .inr ⟨_,rfl,fun h=>by cases h⟩
              · rw [if_neg h4]
                refine .inl ⟨_,rfl,⟨i+1,?_,by omega,?_,?_,?_,?_,?_⟩,?_⟩
                · simp only; exact wN i (by omega)
                · simp only; exact ha.h0
                · intro j c d hj hc hd
                  by_cases hji:j+1<i
                  · exact hs j c d hji hc hd
                  · have:j+1=i:=by omega
                    rw [this,hxa] at hd
                    injection hd with hd
                    subst hd
                    rw [hlast j c this hc]
                    omega
                · intro c _ hc
                  by_cases hi0:0<i
                  · exact hf c hi0 hc
                  · have:i=0:=by omega
                    subst this
                    rw [hxa] at hc
                    injection hc with hc
                    subst hc
                    cases hv:isv a.fT with
                    | true=>rfl
                    | false=>
                      exfalso
                      apply h4
                      unfold wrg
                      rw [if_pos (by rw [hv]; rfl)]
                · intro j c hj hc
                  have:j=i:=by omega
                  subst this
                  rw [hxa] at hc
                  injection hc with hc
                  rw [hc]
                · intro c hc
                  rw [List.take_add_one,hxa] at hc
                  rcases List.mem_append.1 hc with hc | hc
                  · exact hpos c hc
                  · simp at hc; subst hc; omega
                · simp only; rw [wN i (by omega)]; omega
      · rw [if_neg (df (show ¬ (i:Int)<len db by rw [lN]; omega))]
        have hil:i=db.length:=by omega
        refine .inr ⟨_,rfl,fun _=>⟨fun j c d hc hd=>hs j c d ?_ hc hd,fun c hc=>hf c ?_ hc,fun c hc=>hpos c ?_⟩⟩
        · rw [hil]; exact (gS.1 hd).1
        · rw [hil]; exact (gS.1 hc).1
        · rw [hil,List.take_length]; exact hc) F (0,0) ⟨0,rfl,by omega,by simp,by intro j a b hj; omega,by intro a h; omega,by intro j a hj; omega,by simp⟩ (by simp only; omega)
    rw [h1,bs] at h
    cases o with
    | inl u=>exact h2 rfl
    | inr e=>
      simp only [Option.some.injEq] at h
      exfalso
      obtain⟨o',g1,g2⟩:=iter_by (body:=fun s:Int×Int=>wirelessref43_Check_l1 F db s.1 s.2) (fun s=>∃i:Nat,s.2=(i:Int)∧i≤db.length) (fun o=>∀e,o = .inr e→e≠0) (fun s=>db.length - s.2.toNat) (by
        rintro⟨last,x⟩ ⟨i,hx,hi⟩
        simp only at hx
        subst hx
        show (∃s',wirelessref43_Check_l1 F db last (i:Int)=some (.next s')∧_)∨∃o,wirelessref43_Check_l1 F db last (i:Int)=some (.done o)∧_
        unfold wirelessref43_Check_l1
        by_cases hin:i<db.length
        · have hxa:db[i]? = some db[i]:=gE hin
          have ha:=hdb _ (gM hin)
          generalize hq:db[i]=a at hxa ha
          rw [if_pos (dt (show (i:Int)<len db by rw [lN]; omega)),dN,hxa]
          simp only [bs]
          have hp2:((if decide (a.Perms<0)=true then some true else some (decide (a.Perms > 15))):Option Bool)=some (decide (a.Perms<0)||decide (a.Perms > 15)):=by
            cases decide (a.Perms<0) <;> rfl
          rw [hp2,bs,rwrong F hxa hn ha hF,bs]
          split
          · exact .inr ⟨_,rfl,fun e h=>by injection h with h; subst h; decide⟩
          · split
            · exact .inr ⟨_,rfl,fun e h=>by injection h with h; subst h; decide⟩
            · split
              · exact .inr ⟨_,rfl,fun e h=>by injection h with h; subst h; decide⟩
              · split
                · exact .inr ⟨_,rfl,fun e h=>by injection h with h; subst h; decide⟩
                · exact .inl ⟨_,rfl,⟨i+1,by simp only; exact wN i (by omega),by omega⟩,by simp only; rw [wN i (by omega)]; omega⟩
        · rw [if_neg (df (show ¬ (i:Int)<len db by rw [lN]; omega))]
          exact .inr ⟨_,rfl,fun e h=>by cases h⟩) F (0,0) ⟨0,rfl,by omega⟩ (by simp only; omega)
      rw [g1] at h1
      injection h1 with h1
      exact g2 e h1 h
def fnd (db:List Tx1) (h:Int):Int:=match db.findIdx? (fun a=>a.Handle == h) with
  | some k=>(k:Int)
  | none=>-1
theorem ufind (F:Nat) (db:List Tx1) (h:Int) (hn:db.length≤9000000000000000) (hF:db.length<F):qn F db h=some (fnd db h):=by
  unfold qn q3v
  have:=iter_find (body:=fun s:Int×Int=>q1y F db s.1 s.2) (fun i=>(h,(i:Int))) (l:=db) (p:=fun a=>a.Handle == h) (g:=fun k=>Sum.inr ((k:Int),h)) (e:=Sum.inl h) (by
    intro i x hx
    have hi:=(gS.1 hx).1
    show q1y F db h (i:Int)=_
    unfold q1y q3u
    rw [if_pos (dt (by rw [lN]; omega)),dN,hx,bs,bs,wN i (by omega)]
    simp only
    split <;> rfl) (by
    show q1y F db h _=_
    unfold q1y
    rw [if_neg (df (by rw [lN]; omega))]) F 0 (by omega) (by omega)
  rw [show ((0:Nat):Int)=0 from rfl] at this
  rw [this,bs,List.drop_zero]
  unfold fnd
  cases db.findIdx? (fun a=>a.Handle == h) with
  | none=>rfl
  | some k=>simp
structure Good (db:List Tx1):Prop where
  g:∀(i:Nat) a,db[i]? = some a→0≤a.Perms∧a.Perms≤15∧a.Value.length≤512∧wrg db i (plc (db.take i)) a=false
theorem rcheck_all (F:Nat) (db:List Tx1) (hdb:∀a∈db,AOk a) (hn:db.length≤9000000000000000) (hF:db.length+20<F) (h:wirelessref43_Check F db=some 0):Good db:=by
  unfold wirelessref43_Check at h
  by_cases hl:len db > 1000
  · rw [if_pos (dt hl)] at h; cases h
  · rw [if_neg (df hl)] at h
    obtain⟨o,h1,h2⟩:=iter_by (body:=fun s:Int×Int=>wirelessref43_Check_l1 F db s.1 s.2)
      (fun s=>∃i:Nat,s.2=(i:Int)∧i≤db.length∧∀j a,j<i→db[j]? = some a→0≤a.Perms∧a.Perms≤15∧a.Value.length≤512∧wrg db j (plc (db.take j)) a=false)
      (fun o=>(∀e,o = .inr e→e≠0)∧(o = .inl ()→Good db)) (fun s=>db.length - s.2.toNat) (by
      rintro⟨last,x⟩ ⟨i,hx,hi,hp⟩
      simp only at hx
      subst hx
      show (∃s',wirelessref43_Check_l1 F db last (i:Int)=some (.next s')∧_)∨∃o,wirelessref43_Check_l1 F db last (i:Int)=some (.done o)∧_
      unfold wirelessref43_Check_l1
      by_cases hin:i<db.length
      · have hxa:db[i]? = some db[i]:=gE hin
        have ha:=hdb _ (gM hin)
        generalize hq:db[i]=a at hxa ha
        rw [if_pos (dt (show (i:Int)<len db by rw [lN]; omega)),dN,hxa]
        simp only [bs]
        by_cases h1:a.Handle≤last
        · rw [if_pos (dt h1)]
          exact .inr ⟨_,rfl,(fun e h=>by injection h with h; subst h; decide),fun h=>by cases h⟩
        · rw [if_neg (df h1)]
          have hp2:((if decide (a.Perms<0)=true then some true else some (decide (a.Perms > 15))):Option Bool)=some (decide (a.Perms<0)||decide (a.Perms > 15)):=by
            cases decide (a.Perms<0) <;> rfl
          rw [hp2,bs]
          by_cases h2:(decide (a.Perms<0)||decide (a.Perms > 15))=true
          · rw [if_pos h2]
            exact .inr ⟨_,rfl,(fun e h=>by injection h with h; subst h; decide),fun h=>by cases h⟩
          · rw [if_neg h2]
            by_cases h3:len a.Value > 512
            · rw [if_pos (dt h3)]
              exact .inr ⟨_,rfl,(fun e h=>by injection h with h; subst h; decide),fun h=>by cases h⟩
            · rw [if_neg (df h3),rwrong F hxa hn ha hF,bs]
              by_cases h4:wrg db i (plc (db.take i)) a=true
              · rw [if_pos h4]
                exact .inr ⟨_,rfl,(fun e h=>by injection h with h; subst h; decide),fun h=>by cases h⟩
              · rw [if_neg h4]
                rw [lN] at h3
                simp only [Bool.or_eq_true,decide_eq_true_eq] at h2
                refine .inl ⟨_,rfl,⟨i+1,by simp only; exact wN i (by omega),by omega,?_⟩,by simp only; rw [wN i (by omega)]; omega⟩
                intro j c hj hc
                by_cases hji:j<i
                · exact hp j c hji hc
                · have:j=i:=by omega
                  subst this
                  rw [hxa] at hc
                  injection hc with hc
                  subst hc
                  exact⟨by omega,by omega,by omega,(Bool.not_eq_true _).mp h4⟩
      · rw [if_neg (df (show ¬ (i:Int)<len db by rw [lN]; omega))]
        refine .inr ⟨_,rfl,(fun e h=>by cases h),fun _=>⟨fun j c hc=>hp j c ?_ hc⟩⟩
        have:=(gS.1 hc).1
        omega) F (0,0) ⟨0,rfl,by omega,by intro j a hj; omega⟩ (by simp only; omega)
    rw [h1,bs] at h
    cases o with
    | inl u=>exact h2.2 rfl
    | inr e=>
      simp only [Option.some.injEq] at h
      exact absurd h (h2.1 e rfl)
theorem char_prt {db:List Tx1} (hg:Good db) {a:Tx1} (ha:a∈db) (hc:isN a.fT 10243=true):(prt a.Value).2.2.2=true:=by
  obtain⟨i,hi⟩:=List.getElem?_of_mem ha
  obtain⟨_,_,_,h⟩:=hg.g i a hi
  unfold wrg at h
  rw [(char_not hc).1,hc] at h
  by_cases h1:(((i:Int) == 0 && !false)||(decl a.fT&&(iand .i64 a.Perms 2 != 0)))=true
  · rw [if_pos h1] at h; cases h
  · rw [if_neg h1,if_neg (by decide),if_pos rfl] at h
    unfold cw at h
    cases hn:db[i+1]? with
    | none=>rw [hn] at h; cases h
    | some b=>
      rw [hn] at h
      simp only [Bool.or_eq_false_iff,Bool.not_eq_false'] at h
      exact h.1.1
end V
end Go.Proofs.YtoahakdkgefgiaaGreat

namespace Go.Proofs.YtoahakdkgefgiaaGreat
namespace V
theorem sis (F:Nat) (u:Tx0) (n:Int) (h0:0≤n) (h1:n<65536):q8 F u n=some (isN u n):=by
  unfold q8
  rw [ushort F n h0 h1,bs]
  rfl
def free (db:List Tx1) (i k:Nat):Prop:=∀(j:Nat) b,i<j→j<k→db[j]? = some b→isv b.fT=false∧isN b.fT 10243=false
def conf (db:List Tx1) (j:Nat):Prop:=∃b,db[j]? = some b∧isN b.fT 10498=true
def chr (db:List Tx1) (c:Nat) (a:Tx1):Prop:=db[c]? = some a∧isN a.fT 10243=true
theorem prt3 {b:List Int} (h:(prt b).2.2.2=true):¬ b.length<3:=by
  intro h3
  unfold prt at h
  rw [if_pos h3] at h
  cases h
theorem uowner (F:Nat) {db:List Tx1} (hdb:∀a∈db,AOk a) (hg:Good db) (i:Nat) (hi:i<db.length) (hn:db.length≤9000000000000000) (hF:db.length+5<F):(cho db (i+1) = -1∧qr F db i=some (0,0,false))∨∃c a,cho db (i+1)=((c:Nat):Int)∧chr db c a∧qr F db i=some ((prt a.Value).1,(prt a.Value).2.1,true):=by
  have key:∀(k f:Nat),k≤db.length→k<f→(cho db k = -1∧iter (fun s=>qk F db s) f ((k:Int) - 1)=some (.inl ()))∨∃c a,cho db k=((c:Nat):Int)∧chr db c a∧iter (fun s=>qk F db s) f ((k:Int) - 1)=some (.inr ((prt a.Value).1,(prt a.Value).2.1,true)):=by
    intro k
    induction k with
    | zero=>
      intro f _ hf
      match f,hf with
      | f+1,_=>
      refine .inl ⟨rfl,iter_stop ?_⟩
      show qk F db _=_
      unfold qk
      rw [if_neg (df (by omega))]
      rfl
    | succ k ih=>
      intro f hk hf
      match f,hf with
      | f+1,hf=>
      have hx:db[k]? = some db[k]:=gE (by omega)
      have ha:=hdb _ (gM (show k<db.length by omega))
      have hm:=gM (show k<db.length by omega)
      generalize hq:db[k]=a at hx ha hm
      rw [show ((k+1:Nat):Int) - 1=(k:Int) from by omega]
      have hcho:cho db (k+1)=if isN a.fT 10243=true then (k:Int) else if isv a.fT=true then -1 else cho db k:=by simp only [cho,hx]
      have hb:qk F db (k:Int)=if isv a.fT=true then some (.done (.inl ())) else if isN a.fT 10243=true then some (.done (.inr ((prt a.Value).1,(prt a.Value).2.1,true))) else some (.next ((k:Int) - 1)):=by
        unfold qk
        rw [if_pos (dt (by omega)),dN,hx]
        simp only [bs]
        rw [sis F _ _ (by decide) (by decide),sis F _ _ (by decide) (by decide),sis F _ _ (by decide) (by decide)]
        simp only [bs]
        unfold isv
        cases h1:isN a.fT 10240 with
        | true=>rfl
        | false=>
        cases h2:isN a.fT 10241 with
        | true=>rfl
        | false=>
        cases h3:isN a.fT 10243 with
        | false=>
          show some (Out.next (w64 ((k:Int) - 1)))=some (.next ((k:Int) - 1))
          rw [w64_id (by omega) (by omega)]
        | true=>
          have hl:=prt3 (char_prt hg hm h3)
          simp only [Bool.not_false,if_true,Bool.true_and,Bool.or_self,Bool.false_eq_true,if_false]
          rw [if_pos (dt (show len a.Value > 2 by rw [lN]; omega))]
          match hv:a.Value,hl,ha.b with
          | x::y::z::r,_,hb=>
            obtain⟨x0,x1⟩:=hb x (by simp)
            have hy:=hb y (by simp)
            have hz:=hb z (by simp)
            rw [show idx (x::y::z::r) 0=some x from rfl,show idx (x::y::z::r) 1=some y from rfl,show idx (x::y::z::r) 2=some z from rfl,bs,if_pos rfl]
            simp only [bs]
            rw [word16 hy hz,w64_id (by omega) (by omega)]
            unfold q5u prt
            rw [if_neg (by simp)]
            simp [num]
          | [],h,_=>exact absurd (by simp) h
          | [_],h,_=>exact absurd (by simp) h
          | [_,_],h,_=>exact absurd (by simp) h
      by_cases hc:isN a.fT 10243=true
      · rw [if_pos hc,(char_not hc).1,if_neg (by decide)] at hb
        rw [if_pos hc] at hcho
        exact .inr ⟨k,a,hcho,⟨hx,hc⟩,iter_stop hb⟩
      · rw [if_neg hc] at hcho hb
        by_cases hs:isv a.fT=true
        · rw [if_pos hs] at hb hcho
          exact .inl ⟨hcho,iter_stop hb⟩
        · rw [if_neg hs] at hb hcho
          rw [hcho,iter_step hb]
          exact ih f (by omega) (by omega)
  unfold qr
  rcases key (i+1) F (by omega) (by omega) with ⟨h1,h2⟩ | ⟨c,a,h1,h2,h3⟩
  · rw [show ((i+1:Nat):Int) - 1=(i:Int) from by omega] at h2
    refine .inl ⟨h1,?_⟩
    rw [h2]; rfl
  · rw [show ((i+1:Nat):Int) - 1=(i:Int) from by omega] at h3
    refine .inr ⟨c,a,h1,h2,?_⟩
    rw [h3]; rfl
def bt (p:Int):Int:=(if iand .i64 p 16 != 0 then 1 else 0)+(if iand .i64 p 32 != 0 then 2 else 0)
theorem ubits (F:Nat) (p:Int):q1s F p=some (bt p):=by
  unfold q1s bt q4p q4o
  by_cases h1:(iand .i64 p 16 != 0)=true
  · rw [if_pos h1,if_pos h1]
    by_cases h2:(iand .i64 p 32 != 0)=true
    · rw [if_pos h2,if_pos h2]; rfl
    · rw [if_neg h2,if_neg h2]; rfl
  · rw [if_neg h1,if_neg h1]
    by_cases h2:(iand .i64 p 32 != 0)=true
    · rw [if_pos h2,if_pos h2]; rfl
    · rw [if_neg h2,if_neg h2]; rfl
def hit (db:List Tx1) (h:Int) (j c:Nat) (a:Tx1):Prop:=conf db j∧cho db (j+1)=(c:Int)∧chr db c a∧(prt a.Value).2.1=h
theorem usub (F:Nat) {db:List Tx1} (hdb:∀a∈db,AOk a) (hg:Good db) (h:Int) (hn:db.length≤9000000000000000) (hF:db.length+5<F):(q14 F db h=some (0,false)∧∀j c a,¬ hit db h j c a)∨∃j c a,hit db h j c a∧q14 F db h=some (bt (prt a.Value).1,true):=by
  obtain⟨o,h1,h2⟩:=iter_by (body:=fun s:Int=>q2h F db h s) (fun s=>∃i:Nat,s=(i:Int)∧i≤db.length∧∀j c a,j<i→¬ hit db h j c a)
    (fun o=>(o = .inl ()∧∀j c a,¬ hit db h j c a)∨∃j c a,hit db h j c a∧o = .inr (bt (prt a.Value).1,true)) (fun s=>db.length - s.toNat) (by
    rintro s ⟨i,rfl,hi,hno⟩
    show (∃s',q2h F db h (i:Int)=some (.next s')∧_)∨∃o,q2h F db h (i:Int)=some (.done o)∧_
    unfold q2h
    by_cases hin:i<db.length
    · have hx:db[i]? = some db[i]:=gE hin
      generalize hq:db[i]=a at hx
      rw [if_pos (dt (show (i:Int)<len db by rw [lN]; omega)),dN,hx,bs,sis F _ _ (by decide) (by decide),bs]
      have hnext:(∀c b,¬ hit db h i c b)→(∃s',q4q F (i:Int)=some (.next s')∧(∃i:Nat,s'=(i:Int)∧i≤db.length∧∀j c a,j<i→¬ hit db h j c a)∧db.length - s'.toNat<db.length - (i:Int).toNat):=by
        intro hq
        refine ⟨_,rfl,⟨i+1,wN i (by omega),by omega,fun j c b hj=>?_⟩,by rw [wN i (by omega)]; omega⟩
        by_cases hji:j<i
        · exact hno j c b hji
        · have:j=i:=by omega
          subst this
          exact hq c b
      cases hc:isN a.fT 10498 with
      | false=>
        refine .inl (hnext fun c b hh=>?_)
        obtain⟨⟨d,hd,hd2⟩,_⟩:=hh
        rw [hx] at hd
        injection hd with hd
        rw [← hd,hc] at hd2
        cases hd2
      | true=>
        rw [if_neg (by decide)]
        rcases uowner F hdb hg i hin hn hF with ⟨g1,g2⟩ | ⟨c,b,g1,g2,g3⟩
        · rw [g2,bs]
          refine .inl (hnext fun c b hh=>?_)
          have:=hh.2.1
          omega
        · rw [g3,bs]
          by_cases hv:(prt b.Value).2.1=h
          · rw [if_pos (by simp [hv]),ubits,bs]
            exact .inr ⟨_,rfl,.inr ⟨i,c,b,⟨⟨a,hx,hc⟩,g1,g2,hv⟩,rfl⟩⟩
          · rw [if_neg (by simp [hv])]
            refine .inl (hnext fun c' b' hh=>hv ?_)
            have e:c'=c:=by have:=hh.2.1; omega
            subst e
            have:=hh.2.2.1.1
            rw [g2.1] at this
            injection this with this
            rw [this]
            exact hh.2.2.2
    · rw [if_neg (df (show ¬ (i:Int)<len db by rw [lN]; omega))]
      refine .inr ⟨_,rfl,.inl ⟨rfl,fun j c a hh=>?_⟩⟩
      obtain⟨⟨d,hd,_⟩,_⟩:=id hh
      have:=(gS.1 hd).1
      exact hno j c a (by omega) hh) F 0 ⟨0,rfl,by omega,by intro j c a hj; omega⟩ (by simp; omega)
  unfold q14
  rcases h2 with ⟨rfl,h2⟩ | ⟨j,c,a,h2,rfl⟩
  · refine .inl ⟨?_,h2⟩
    rw [h1]; rfl
  · refine .inr ⟨j,c,a,h2,?_⟩
    rw [h1]; rfl
def Inc (db:List Tx1):Prop:=∀(i:Nat) a b,db[i]? = some a→db[i+1]? = some b→a.Handle<b.Handle
theorem inc_lt {db:List Tx1} (hi:Inc db):∀(d i:Nat) a b,db[i]? = some a→db[i+d+1]? = some b→a.Handle<b.Handle
  | 0,i,a,b,h1,h2=>hi i a b h1 h2
  | d+1,i,a,b,h1,h2=>by
    have hl:=(gS.1 h2).1
    have hx:db[i+d+1]? = some db[i+d+1]:=gE (by omega)
    have g1:=inc_lt hi d i a _ h1 hx
    have g2:=hi (i+d+1) _ b hx h2
    omega
theorem fnd_at {db:List Tx1} (hi:Inc db) {k:Nat} {a:Tx1} (h:db[k]? = some a):fnd db a.Handle=(k:Int):=by
  have hl:=(gS.1 h).1
  have:db.findIdx? (fun b=>b.Handle == a.Handle)=some k:=by
    rw [List.findIdx?_eq_some_iff_getElem]
    refine ⟨hl,?_,?_⟩
    · rw [(gS.1 h).2]; simp
    · intro j hj
      have hx:db[j]? = some db[j]:=gE (by omega)
      have:=inc_lt hi (k - j - 1) j _ a hx (by rw [show j+(k - j - 1)+1=k from by omega]; exact h)
      simp
      omega
  unfold fnd
  rw [this]
theorem fnd_some {db:List Tx1} {h:Int} {k:Nat} (hk:fnd db h=(k:Int)):∃a,db[k]? = some a∧a.Handle=h:=by
  unfold fnd at hk
  cases he:db.findIdx? (fun b=>b.Handle == h) with
  | none=>rw [he] at hk; simp only at hk; omega
  | some q=>
    rw [he] at hk
    simp only at hk
    have:q=k:=by omega
    subst this
    obtain⟨h1,h2,_⟩:=List.findIdx?_eq_some_iff_getElem.1 he
    exact⟨db[q],gE h1,by simpa using h2⟩
theorem fnd_cases (db:List Tx1) (h:Int):fnd db h = -1∨∃k:Nat,fnd db h=(k:Int)∧k<db.length:=by
  unfold fnd
  cases he:db.findIdx? (fun a=>a.Handle == h) with
  | none=>exact .inl rfl
  | some k=>exact .inr ⟨k,rfl,(List.findIdx?_eq_some_iff_getElem.1 he).1⟩
end V
end Go.Proofs.YtoahakdkgefgiaaGreat

namespace Go.Proofs.YtoahakdkgefgiaaGreat
namespace V
structure SbOk (s:Tx6):Prop where
  h0:0≤s.Handle
  h1:s.Handle<65536
  b0 : -9223372036854775808≤s.Bits
  b1:s.Bits<9223372036854775808
theorem app_k {α:Type} {k:Nat} {l m:List α} (hk:k≤1000) (h:l.length+m.length≤100000000000):app k l m=some (l++m):=by
  unfold app
  have:(l.length+m.length) * k≤100000000000 * 1000:=Nat.mul_le_mul h hk
  rw [if_pos ⟨by omega,by omega⟩]
theorem uattrs (F:Nat) (db:List Tx1) (hv:∀a∈db,a.Value.length≤140737488355328) (hn:db.length≤10000000) (hF:db.length+5<F):q6 F db=some db:=by
  unfold q6
  have:=iter_count (body:=fun s:List Tx1×Int=>q1t F db s.1 s.2) (fun i=>(db.take i,(i:Int))) db.length db (by
    intro i hi
    have hx:db[i]? = some db[i]:=gE hi
    have hm:=hv _ (gM hi)
    have hq:({ db[i] with Value:=db[i].Value }:Tx1)=db[i]:=by cases db[i]; rfl
    show q1t F db (db.take i) (i:Int)=_
    unfold q1t
    rw [if_pos (dt (by rw [lN]; omega)),dN,hx,bs,join_one F _ (by omega) hm,bs,app_k (by decide) (by simp; omega),bs,wN i (by omega),List.take_add_one,hx]
    rfl) (by
    show q1t F db (db.take db.length) (db.length:Int)=_
    unfold q1t
    rw [if_neg (df (by rw [lN]; omega)),List.take_length]) F 0 (by omega) (by omega)
  rw [show (([],0):List Tx1×Int)=(db.take 0,((0:Nat):Int)) from rfl,this]
  rfl
def mkS (db:List Tx1) (mx lv:Int) (rb:Bool) (aw:Int) (subs:List Tx6):Tx8:=Tx8.mk db 23 mx lv [] aw rb subs [] false 0
theorem uclone (F:Nat) (l:List Tx6) (hn:l.length≤10000000):qg F l=some l:=by
  unfold qg
  rw [app_k (by decide) (by simp; omega),bs,List.nil_append]
theorem example_ok:q1h FF=some true:=by kernel_rfl
theorem light_ok (F:Nat) (db:List Tx1) (hn:db.length≤9000000000000000) (hF:100<F):∃b,q2x F db=some b∧(b=true→db.length≤80∧∀a∈db,a.Value.length≤4096):=by
  unfold q2x
  obtain⟨o,h1,h2⟩:=iter_by (body:=fun s:Int×Int=>q2b F db s.1 s.2) (fun s=>∃i:Nat,s.2=(i:Int)∧i≤db.length∧i≤80∧∀a∈db.take i,a.Value.length≤4096)
    (fun o=>(∃n,o = .inl n∧∀a∈db.take 80,a.Value.length≤4096)∨o = .inr false) (fun s=>80 - s.2.toNat) (by
    rintro⟨n,x⟩ ⟨i,hx,hi,hi2,hall⟩
    simp only at hx
    subst hx
    show (∃s',q2b F db n (i:Int)=some (.next s')∧_)∨∃o,q2b F db n (i:Int)=some (.done o)∧_
    unfold q2b
    by_cases hin:i<db.length∧i<80
    · have hxa:db[i]? = some db[i]:=gE hin.1
      generalize hq:db[i]=a at hxa
      rw [if_pos (by rw [dt (show (i:Int)<len db by rw [lN]; omega),dt (show (i:Int)<80 by omega)]; rfl),dN,hxa]
      simp only [bs]
      by_cases hv:len a.Value > 4096
      · rw [if_pos (dt hv)]
        exact .inr ⟨_,rfl,.inr rfl⟩
      · rw [if_neg (df hv)]
        rw [lN] at hv
        refine .inl ⟨_,rfl,⟨i+1,?_,by omega,by omega,?_⟩,?_⟩
        · simp only; exact wN i (by omega)
        · intro c hc
          rw [List.take_add_one,hxa] at hc
          rcases List.mem_append.1 hc with hc | hc
          · exact hall c hc
          · simp at hc; subst hc; omega
        · simp only; rw [wN i (by omega)]; omega
    · rw [if_neg (by
        rw [Bool.and_eq_true]
        rintro⟨h1,h2⟩
        have h1:=of_decide_eq_true h1
        have h2:=of_decide_eq_true h2
        rw [lN] at h1
        omega)]
      refine .inr ⟨_,rfl,.inl ⟨_,rfl,fun a ha=>hall a ?_⟩⟩
      have e:db.take 80=db.take i:=by
        by_cases h:i<db.length
        · rw [show i=80 from by omega]
        · rw [List.take_of_length_le (by omega),List.take_of_length_le (by omega)]
      rwa [e] at ha) F (0,0) ⟨0,rfl,by omega,by omega,by simp⟩ (by simp only; omega)
  rw [h1,bs]
  rcases h2 with ⟨n,rfl,h3⟩ | rfl
  · refine ⟨_,rfl,fun hb=>?_⟩
    simp only [Bool.and_eq_true] at hb
    have h4:=of_decide_eq_true hb.1
    rw [lN] at h4
    refine ⟨by omega,fun a ha=>h3 a ?_⟩
    rwa [List.take_of_length_le (by omega)]
  · exact⟨false,rfl,fun h=>by cases h⟩
end V
end Go.Proofs.YtoahakdkgefgiaaGreat

namespace Go.Proofs.YtoahakdkgefgiaaGreat
namespace V
theorem rput_step (F:Nat) (size n i:Int) (l:List Int) (h0:0≤n) (h1:n<18446744073709551616) (hl:l.length≤1000000) (hi:0≤i∧i<1000) (hs:i<size):q1l F size n l i=some (.next (n / 256,l++[n % 256],i+1)):=by
  unfold q1l
  rw [if_pos (by simpa using hs)]
  simp only [remp,quop,tmod256 h0,tdiv256 h0,wrap_u64]
  rw [wu8_id (by omega) (by omega),app_cat (by simp; omega)]
  simp only [bs]
  rw [wu64_id (by omega) (by omega),w64_id (by omega) (by omega)]
theorem rput_ok (F:Nat) (n:Int) (k:Nat) (hF:k<F) (hk:k≤8) (h0:0≤n) (h1:n<18446744073709551616):q9 F n k=some (leb k n):=by
  have gen:∀(m F:Nat) (n i:Int) (l:List Int),0≤n→n<18446744073709551616→l.length≤1000 - m→m≤8→0≤i→i+m=k→m<F→iter (fun s=>q1l F (k:Int) s.1 s.2.1 s.2.2) F (n,l,i)=some (l++leb m n):=by
    intro m
    intro F
    have key:∀(m f:Nat) (n i:Int) (l:List Int),0≤n→n<18446744073709551616→l.length≤1000 - m→m≤8→0≤i→i+m=k→m<f→iter (fun s=>q1l F (k:Int) s.1 s.2.1 s.2.2) f (n,l,i)=some (l++leb m n):=by
      intro m
      induction m with
      | zero=>
        intro f n i l h0 h1 hl hm hi hik hf
        cases f with
        | zero=>omega
        | succ f=>
          rw [iter_stop (o:=l) (by unfold q1l; rw [if_neg (by simp; omega)])]
          simp [leb]
      | succ m ih=>
        intro f n i l h0 h1 hl hm hi hik hf
        cases f with
        | zero=>omega
        | succ f=>
          rw [iter_step (rput_step F k n i l h0 h1 (by omega) (by omega) (by omega)),ih f (n / 256) (i+1) (l++[n % 256]) (by omega) (by omega) (by simp; omega) (by omega) (by omega) (by omega) (by omega)]
          simp [leb]
    exact key m F
  unfold q9
  rw [gen k F n 0 [] h0 h1 (by simp) hk (by omega) (by omega) hF]
  simp [q5b]
end V
end Go.Proofs.YtoahakdkgefgiaaGreat

namespace Go.Proofs.YtoahakdkgefgiaaGreat
namespace V
def encU (u:Tx0):List Int:=if (numb u).2=true then leb 2 (numb u).1 else leb 8 u.Low++leb 8 u.High
theorem numb_rng {u:Tx0} (hu:UOk u):0≤(numb u).1∧(numb u).1<65536:=by
  obtain⟨h0,h1,_,_⟩:=hu
  unfold numb
  by_cases h:u.Low=9223372588214596859∧u.High % 4294967296=4096∧u.High / 4294967296<65536
  · rw [if_pos h]
    simp only
    omega
  · rw [if_neg h]
    simp
theorem leb8 (n:Int):leb 8 n=[n % 256,n / 256 % 256,n / 65536 % 256,n / 16777216 % 256,n / 4294967296 % 256,n / 1099511627776 % 256,n / 281474976710656 % 256,n / 72057594037927936 % 256]:=by
  simp only [leb]
  rw [Int.ediv_ediv_of_nonneg (x:=n) (by decide:(0:Int)≤256),show (256:Int) * 256=65536 from rfl,Int.ediv_ediv_of_nonneg (x:=n) (by decide:(0:Int)≤65536),show (65536:Int) * 256=16777216 from rfl,Int.ediv_ediv_of_nonneg (x:=n) (by decide:(0:Int)≤16777216),show (16777216:Int) * 256=4294967296 from rfl,Int.ediv_ediv_of_nonneg (x:=n) (by decide:(0:Int)≤4294967296),show (4294967296:Int) * 256=1099511627776 from rfl,Int.ediv_ediv_of_nonneg (x:=n) (by decide:(0:Int)≤1099511627776),show (1099511627776:Int) * 256=281474976710656 from rfl,Int.ediv_ediv_of_nonneg (x:=n) (by decide:(0:Int)≤281474976710656),show (281474976710656:Int) * 256=72057594037927936 from rfl]
theorem uencode (F:Nat) {u:Tx0} (hu:UOk u) (hF:2<F):q3g F u=some (encU u):=by
  unfold q3g encU
  rw [unumber F hu,bs]
  by_cases h:(numb u).2=true
  · rw [if_pos h,if_pos h,shrp_eq]
    simp only [leb,wu8]
    rfl
  · rw [if_neg h,if_neg h,ubytes,bs,leb8,leb8]
    simp only [List.cons_append,List.nil_append]
    rw [join_one F _ (by omega) (by simp),bs]
theorem rencode (F:Nat) {u:Tx0} (hu:UOk u) (hF:20<F):qu F u=some (encU u):=by
  unfold qu encU
  rw [rnumber F hu,bs]
  have hr:=numb_rng hu
  obtain⟨h0,h1,l0,l1⟩:=hu
  by_cases h:(numb u).2=true
  · rw [if_pos h,if_pos h,wu64_id hr.1 (by omega)]
    have:=rput_ok F (numb u).1 2 (by omega) (by omega) hr.1 (by omega)
    rw [show ((2:Nat):Int)=2 from rfl] at this
    rw [this,bs]
  · rw [if_neg h,if_neg h]
    have p1:=rput_ok F u.Low 8 (by omega) (by omega) l0 l1
    have p2:=rput_ok F u.High 8 (by omega) (by omega) h0 h1
    rw [show ((8:Nat):Int)=8 from rfl] at p1 p2
    rw [p1,p2,bs,bs,app_cat (by rw [lL,lL]; decide),bs]
    rfl
theorem encU_len (u:Tx0):(encU u).length≤16:=by
  unfold encU
  by_cases h:(numb u).2=true
  · rw [if_pos h,lL]; decide
  · rw [if_neg h,lA,lL,lL]; decide
end V
end Go.Proofs.YtoahakdkgefgiaaGreat

namespace Go.Proofs.YtoahakdkgefgiaaGreat
namespace V
theorem iter_fold2 {S O α β:Type} {body:S→Option (Out S O)} (l:List α) (f:β→α→β) (st:β→Nat→S) (o:β→O) (I:Nat→β→Prop)
    (h:∀(i:Nat) x b,l[i]? = some x→I i b→body (st b i)=some (.next (st (f b x) (i+1)))∧I (i+1) (f b x))
    (hd:∀b,I l.length b→body (st b l.length)=some (.done (o b))) :
    ∀(F i:Nat) (b:β),i≤l.length→I i b→l.length - i<F→iter body F (st b i)=some (o ((l.drop i).foldl f b))
  | 0,i,b,_,_,hF=>by omega
  | F+1,i,b,hi,hI,hF=>by
    by_cases hin:i<l.length
    · have hx:l[i]? = some l[i]:=gE hin
      have hdr:l.drop i=l[i]::l.drop (i+1):=List.drop_eq_getElem_cons hin
      obtain⟨h1,h2⟩:=h i _ b hx hI
      rw [iter_step h1,iter_fold2 l f st o I h hd F (i+1) _ hin h2 (by omega),hdr,List.foldl_cons]
    · have:i=l.length:=by omega
      subst this
      rw [iter_stop (hd b hI),List.drop_length]
      rfl
theorem shr_bytes {v:Int} (i:Nat) (hi:i≤8) (_h0:0≤v):ishr .u64 v (w64 (8 * i))=some (v / 256 ^ i):=by
  rw [w64_id (by omega) (by omega)]
  unfold ishr
  rw [if_neg (by omega)]
  have h1:min (8 * (i:Int)).toNat IntKind.u64.bits=8 * i:=by
    show min (8 * (i:Int)).toNat 64=8 * i
    omega
  rw [h1,show (2:Int) ^ (8 * i)=256 ^ i from by rw [Int.pow_mul]; rfl,Int.fdiv_eq_ediv_of_nonneg _ (Int.le_of_lt (pow_pos256 i))]
structure FieldOk (f:Txb):Prop where
  s0:1≤f.Size
  s1:f.Size≤8
  v0:0≤f.Value
  v1:f.Value<18446744073709551616
  v2:f.Value<256 ^ f.Size.toNat
theorem oput_in (F:Nat) (x:Txb) (hx:FieldOk x) (l:List Int) (hl:l.length≤1000000) (hF:9<F):iter (fun s=>q1b F x s.1 s.2) F (l,0)=some (l++leb x.Size.toNat x.Value):=by
  obtain⟨s0,s1,v0,v1,v2⟩:=hx
  have:=iter_count (body:=fun s:List Int×Int=>q1b F x s.1 s.2) (fun i=>(l++leb i x.Value,(i:Int))) x.Size.toNat (l++leb x.Size.toNat x.Value) (by
    intro i hi
    show q1b F x (l++leb i x.Value) i=_
    unfold q1b
    rw [if_pos (by simp; omega),shr_bytes i (by omega) v0]
    simp only [bs]
    rw [app_cat (by simp [lL]; omega)]
    simp only [bs]
    rw [wN i (by omega),leb_snoc,List.append_assoc]
    rfl) (by
    show q1b F x _ _=_
    unfold q1b
    rw [if_neg (by simp; omega)]) F 0 (by omega) (by omega)
  simpa [leb] using this
def putAll (fs:List Txb):List Int:=(fs.map fun f=>leb f.Size.toNat f.Value).flatten
theorem putAll_len:∀{fs:List Txb},(∀f∈fs,FieldOk f)→(putAll fs).length≤8 * fs.length
  | [],_=>by simp [putAll]
  | f::fs,h=>by
    have h1:=h f (by simp)
    have h2:=putAll_len (fs:=fs) fun g hg=>h g (by simp [hg])
    obtain⟨s0,s1,_⟩:=h1
    simp only [putAll,List.map_cons,List.flatten_cons,lA,lL,List.length_cons] at h2 ⊢
    omega
theorem oput_ok (F:Nat) (fs:List Txb) (h:∀f∈fs,FieldOk f) (hn:fs.length≤1000) (hF:fs.length+9<F):q17 F fs=some (putAll fs,0):=by
  unfold q17
  have:=iter_count (body:=fun s:List Int×Int=>q22 F fs s.1 s.2) (fun i=>(putAll (fs.take i),(i:Int))) fs.length (.inl (putAll fs)) (by
    intro i hi
    have hx:fs[i]? = some fs[i]:=gE hi
    have hf:=h fs[i] (gM hi)
    have hlen:=putAll_len (fs:=fs.take i) (fun f hf=>h f (List.mem_of_mem_take hf))
    have htl:(fs.take i).length≤i:=by simp; omega
    show q22 F fs (putAll (fs.take i)) i=_
    unfold q22
    rw [if_pos (by simp [len]; omega),dN,hx]
    simp only [bs,q3y]
    obtain⟨s0,s1,v0,v1,v2⟩:=hf
    have hsz:(!(decide (fs[i].Size≥1)&&decide (fs[i].Size≤8)))=false:=by simp; omega
    rw [hsz]
    simp only [Bool.false_eq_true,if_false]
    have hz:((if decide (fs[i].Size<8)=true then (ishr IntKind.u64 fs[i].Value (w64 (8 * fs[i].Size))).bind fun x_16=>some (x_16 != 0) else some false))=some false:=by
      by_cases h8:fs[i].Size<8
      · rw [if_pos (by simpa using h8)]
        have:=shr_bytes (v:=fs[i].Value) fs[i].Size.toNat (by omega) v0
        rw [show ((fs[i].Size.toNat:Nat):Int)=fs[i].Size from by omega] at this
        rw [this,Int.ediv_eq_zero_of_lt v0 v2]
        rfl
      · rw [if_neg (by simpa using h8)]
    rw [hz]
    simp only [bs,Bool.false_eq_true,if_false]
    rw [oput_in F fs[i] ⟨s0,s1,v0,v1,v2⟩ _ (by omega) (by omega)]
    simp only [bs,q5y]
    rw [wN i (by omega),List.take_add_one,hx]
    simp only [putAll,List.map_append,List.flatten_append,Option.toList_some,List.map_cons,List.map_nil,List.flatten_cons,List.flatten_nil,List.append_nil]) (by
    show q22 F fs _ _=_
    unfold q22
    rw [if_neg (by simp [len]),List.take_length]) F 0 (by omega) (by omega)
  simp only [List.take_zero] at this
  have h0:(putAll [],((0:Nat):Int))=(([]:List Int),(0:Int)):=rfl
  rw [h0] at this
  rw [this]
  rfl
theorem number_ok (F:Nat) (k:Nat) (n:Int) (hk0:1≤k) (hk:k≤8) (h0:0≤n) (h1:n<18446744073709551616) (h2:n<256 ^ k) (hF:20<F):qx F (k:Int) n=some (leb k n):=by
  unfold qx
  rw [oput_ok F [Txb.mk k n] (by
    intro f hf
    simp at hf
    subst hf
    exact⟨by simp only; omega,by simp only; omega,h0,h1,by simpa using h2⟩) (by simp) (by simp; omega),bs]
  simp [putAll]
theorem join_three (F:Nat) (a b c:List Int) (hF:3<F) (h:a.length+b.length+c.length≤140737488355328):q5 F [a,b,c]=some (a++b++c):=by
  unfold q5
  obtain⟨F',rfl⟩:∃F',F=F'+1+1+1+1:=⟨F - 4,by omega⟩
  have h1:qm (F'+1+1+1+1) [a,b,c] [] 0=some (.next (a,1)):=by simpa using join_step (F'+1+1+1+1) [a,b,c] [] 0 a rfl (by simp; omega) (by simp)
  have h2:qm (F'+1+1+1+1) [a,b,c] a 1=some (.next (a++b,2)):=by simpa using join_step (F'+1+1+1+1) [a,b,c] a 1 b rfl (by omega) (by simp)
  have h3:qm (F'+1+1+1+1) [a,b,c] (a++b) 2=some (.next (a++b++c,3)):=by simpa using join_step (F'+1+1+1+1) [a,b,c] (a++b) 2 c rfl (by rw [lA]; omega) (by simp)
  rw [iter_step h1,iter_step h2,iter_step h3,iter_stop (o:=a++b++c) (by unfold qm; rw [if_neg (by simp [len])])]
  rfl
def I32 (x:Int):Prop:=0≤x∧x<4294967296
def I64 (x:Int):Prop:=0≤x∧x<18446744073709551616
theorem ixor32_rng (a b:Int):I32 (ixor .u32 a b):=by
  unfold ixor I32
  rw [wrap_u32]
  unfold wu32
  omega
theorem ixor64_rng (a b:Int):I64 (ixor .u64 a b):=by
  unfold ixor I64
  rw [wrap_u64]
  unfold wu64
  omega
def rot (x:Int) (n m:Nat):Int:=ior .u32 (IntKind.u32.wrap (x * 2 ^ n)) (x.fdiv (2 ^ m))
theorem ishl_lit (x:Int) (n:Nat) (hn:n≤32):ishl .u32 x (n:Int)=some (IntKind.u32.wrap (x * 2 ^ n)):=by
  unfold ishl
  rw [if_neg (by omega)]
  have:min (n:Int).toNat IntKind.u32.bits=n:=by
    show min (n:Int).toNat 32=n
    omega
  rw [this]
theorem ishr_lit (k:IntKind) (x:Int) (n:Nat) (hn:n≤k.bits):ishr k x (n:Int)=some (x.fdiv (2 ^ n)):=by
  unfold ishr
  rw [if_neg (by omega)]
  have:min (n:Int).toNat k.bits=n:=by omega
  rw [this]
theorem rot_u (F:Nat) (x:Int) (n:Nat) (h1:1≤n) (h2:n≤31) (e:iand .u64 (wu64 (n:Int)) 31=(n:Int)):q23 F x (n:Int)=some (rot x n (32 - n)):=by
  unfold q23
  rw [e,show wu64 (32 - (n:Int))=((32 - n:Nat):Int) from by rw [wu64_id (by omega) (by omega)]; omega,ishl_lit x n (by omega),ishr_lit .u32 x (32 - n) (by show 32 - n≤32; omega),bs,bs]
  rfl
def rnd (h:Int):Int:=ixor .u32 (wu32 (rot (wu32 (h+0)) 7 25 * 2654435761)) (rot 0 16 16)
theorem round_u (F:Nat) (i:Int) (h0:0≤i) (h1:i<8) (h:Int):qo F 0 i h=some (rnd h):=by
  unfold qo
  have e1:qt F 0 (remp (w64 (11 * (remp i 64))) 64)=some 0:=by
    have e_0:qt F 0 (remp (w64 (11 * (remp 0 64))) 64)=some 0:=by kernel_rfl
    have e_1:qt F 0 (remp (w64 (11 * (remp 1 64))) 64)=some 0:=by kernel_rfl
    have e_2:qt F 0 (remp (w64 (11 * (remp 2 64))) 64)=some 0:=by kernel_rfl
    have e_3:qt F 0 (remp (w64 (11 * (remp 3 64))) 64)=some 0:=by kernel_rfl
    have e_4:qt F 0 (remp (w64 (11 * (remp 4 64))) 64)=some 0:=by kernel_rfl
    have e_5:qt F 0 (remp (w64 (11 * (remp 5 64))) 64)=some 0:=by kernel_rfl
    have e_6:qt F 0 (remp (w64 (11 * (remp 6 64))) 64)=some 0:=by kernel_rfl
    have e_7:qt F 0 (remp (w64 (11 * (remp 7 64))) 64)=some 0:=by kernel_rfl
    have:i=0∨i=1∨i=2∨i=3∨i=4∨i=5∨i=6∨i=7:=by omega
    rcases this with h | h | h | h | h | h | h | h
    · rw [h]; exact e_0
    · rw [h]; exact e_1
    · rw [h]; exact e_2
    · rw [h]; exact e_3
    · rw [h]; exact e_4
    · rw [h]; exact e_5
    · rw [h]; exact e_6
    · rw [h]; exact e_7
  have e2:q1c F 0 32=some 0:=by kernel_rfl
  have e3:wu32 0=0:=rfl
  rw [e1,bs,e2,bs,e3]
  have r1:=rot_u F (wu32 (h+0)) 7 (by decide) (by decide) (by kernel_rfl)
  have r2:=rot_u F 0 16 (by decide) (by decide) (by kernel_rfl)
  rw [show ((7:Nat):Int)=7 from rfl] at r1
  rw [show ((16:Nat):Int)=16 from rfl] at r2
  rw [r1,r2,bs,bs]
  rfl
def mx:Nat→Int×Int→Int×Int
  | 0,s=>s
  | n+1,s=>((mx n s).2,ixor .u32 (mx n s).1 (rnd (mx n s).2))
theorem mx_rng:∀(n:Nat) (s:Int×Int),I32 s.1→I32 s.2→I32 (mx n s).1∧I32 (mx n s).2
  | 0,_,h1,h2=>⟨h1,h2⟩
  | n+1,s,h1,h2=>⟨(mx_rng n s h1 h2).2,ixor32_rng _ _⟩
def mix0 (x:Int):Int:=(mx 8 (x / 4294967296,x % 4294967296)).1 * 4294967296+(mx 8 (x / 4294967296,x % 4294967296)).2
theorem mix0_rng {x:Int} (h:I64 x):I64 (mix0 x):=by
  obtain⟨h0,h1⟩:=h
  obtain⟨⟨a1,a2⟩,b1,b2⟩:=mx_rng 8 (x / 4294967296,x % 4294967296) ⟨by simp only; omega,by simp only; omega⟩ ⟨by simp only; omega,by simp only; omega⟩
  unfold mix0 I64
  omega
theorem iand_mod (x:Int) (h0:0≤x) (h1:x<18446744073709551616):iand .u64 x 4294967295=x % 4294967296:=by
  obtain⟨a,rfl⟩:=Int.eq_ofNat_of_zero_le h0
  unfold iand
  have e:(BitVec.ofInt IntKind.u64.bits (a:Int) &&& BitVec.ofInt IntKind.u64.bits 4294967295).toNat=a % 4294967296:=by
    rw [BitVec.toNat_and]
    show (BitVec.ofInt 64 (a:Int)).toNat &&& (BitVec.ofInt 64 ((4294967295:Nat):Int)).toNat=_
    rw [ofInt_nat 64 a (by omega),ofInt_nat 64 4294967295 (by decide),show (4294967295:Nat)=2 ^ 32 - 1 from by decide,Nat.and_two_pow_sub_one_eq_mod]
  rw [e,wrap_u64,wu64_id (by omega) (by omega)]
  omega
theorem split_ok (F:Nat) {x:Int} (h:I64 x):q39 F x=some (x / 4294967296,x % 4294967296):=by
  obtain⟨h0,h1⟩:=h
  have e1:∀x,q1c F x 32=some (iand .u64 x 4294967295):=by
    intro x
    unfold q1c
    rw [if_neg (by decide),if_neg (by decide),show ishl .u64 1 32=some 4294967296 from by kernel_rfl,bs]
    rfl
  unfold q39
  rw [e1,bs,iand_mod x h0 h1,shrp_eq,show (2:Int) ^ 32=4294967296 from rfl,wu32_id (by omega) (by omega),wu32_id (by omega) (by omega)]
theorem mix_iter (F:Nat) (b:Int×Int×Int→Option (Out (Int×Int×Int) (Int×Int))) (s:Int×Int) (hF:8<F)
    (h:∀(x y:Int) (i:Nat),i<8→b (x,y,(i:Int))=some (.next (y,ixor .u32 x (rnd y),((i+1:Nat):Int)))) (hd:∀x y:Int,b (x,y,8)=some (.done (x,y))):iter b F (s.1,s.2,0)=some (mx 8 s):=by
  have:=iter_count (body:=b) (fun i=>((mx i s).1,(mx i s).2,(i:Int))) 8 (mx 8 s) (fun i hi=>h _ _ i hi) (hd _ _) F 0 (by omega) (by omega)
  exact this
theorem mix_u (F:Nat) {x:Int} (h:I64 x) (hF:8<F):q25 F 0 x=some (mix0 x):=by
  have hm:=mx_rng 8 (x / 4294967296,x % 4294967296) (by obtain⟨h0,h1⟩:=h; exact⟨by simp only; omega,by simp only; omega⟩) (by obtain⟨h0,h1⟩:=h; exact⟨by simp only; omega,by simp only; omega⟩)
  unfold q25
  rw [split_ok F h,bs]
  have:=mix_iter F (fun s=>q24 F 0 s.1 s.2.1 s.2.2) (x / 4294967296,x % 4294967296) hF (by
    intro x y i hi
    show q24 F 0 x y (i:Int)=_
    unfold q24
    rw [if_pos (dt (by omega)),round_u F i (by omega) (by omega),bs,wN i (by omega)]) (by
    intro x y
    show q24 F 0 x y 8=_
    unfold q24
    rw [if_neg (by decide)])
  rw [this,bs]
  unfold q5z q3z mix0
  generalize mx 8 (x / 4294967296,x % 4294967296)=t at hm
  obtain⟨⟨a0,a1⟩,b0,b1⟩:=hm
  obtain⟨a,b⟩:=t
  simp only at a0 a1 b0 b1 ⊢
  obtain⟨a,rfl⟩:=Int.eq_ofNat_of_zero_le a0
  obtain⟨b,rfl⟩:=Int.eq_ofNat_of_zero_le b0
  have e:shlp .u64 (wu64 (a:Int)) 32=((a * 2 ^ 32:Nat):Int):=by
    unfold shlp
    rw [wu64_id (by omega) (by omega),wrap_u64,show (a:Int) * 2 ^ 32=((a * 2 ^ 32:Nat):Int) from by rw [Int.natCast_mul]; rfl,wu64_id (by omega) (by omega)]
  rw [bs,e,wu64_id (x:=(b:Int)) (by omega) (by omega),ior64 _ _ (by omega) (by omega),Nat.or_comm,nat_or_add _ _ 32 (by omega)]
  congr 1
  omega
theorem chunk_u (F:Nat) (l:List Int) (hb:∀x∈l,Byte x) (hl:l.length≤8) (hF:8<F):iter (fun s:Int×Int=>q1d F l s.1 s.2) F (0,0)=some (num l):=by
  have:=iter_count (body:=fun s:Int×Int=>q1d F l s.1 s.2) (fun i=>(num (l.take i),(i:Int))) l.length (num l) (by
    intro i hi
    have hx:l[i]? = some l[i]:=gE hi
    show q1d F l (num (l.take i)) (i:Int)=_
    unfold q1d
    rw [if_pos (dt (show (i:Int)<len l by rw [lN]; omega)),dN,hx,bs,shl_bytes (hb _ (List.mem_of_getElem? hx)) i (by omega),bs,wN i (by omega),ior_num hb (by omega) _ hx]) (by
    show q1d F l _ (l.length:Int)=_
    unfold q1d
    rw [if_neg (df (by rw [lN]; omega)),List.take_length]) F 0 (by omega) (by omega)
  exact this
theorem tag_u (F:Nat) (b:List Int) (hb:∀x∈b,Byte x) (hl:b.length≤1000000000) (hF:1000000020<F):∃x,q1e F 0 b=some x∧I64 x:=by
  have h0:I64 (wu64 (len b)):=by rw [lN,wu64_id (by omega) (by omega)]; exact⟨by omega,by omega⟩
  obtain⟨o1,h1,h4⟩:=iter_by (body:=fun s:Int×Int=>q2n F 0 b s.1 s.2)
    (fun s=>I64 s.1∧∃i:Nat,s.2=(i:Int)∧i≤b.length+8) (fun a=>I64 a) (fun s=>b.length+8 - s.2.toNat) (by
    rintro⟨x,at_⟩ ⟨hx,i,hi,hil⟩
    simp only at hx hi
    subst hi
    show (∃t1,q2n F 0 b x (i:Int)=some (.next t1)∧_)∨∃o1,q2n F 0 b x (i:Int)=some (.done o1)∧_
    unfold q2n
    by_cases hin:i<b.length
    · have hmin:imin (w64 ((i:Int)+8)) (len b)=((min (i+8) b.length:Nat):Int):=by
        rw [w64_id (by omega) (by omega),lN]
        unfold imin
        by_cases h:(b.length:Int)<(i:Int)+8
        · rw [if_pos h]; omega
        · rw [if_neg h]; omega
      have hcb:∀y∈(b.take (min (i+8) b.length)).drop i,Byte y:=fun y hy=>hb y (List.mem_of_mem_take (List.mem_of_mem_drop hy))
      have hcl:((b.take (min (i+8) b.length)).drop i).length≤8:=by rw [List.length_drop,List.length_take]; omega
      rw [if_pos (dt (show (i:Int)<len b by rw [lN]; omega)),hmin,sub_nat b i _ (by omega) (by omega),bs,chunk_u F _ hcb hcl (by omega),bs]
      unfold q61 q7h
      have hr:=ixor64_rng x (num ((b.take (min (i+8) b.length)).drop i))
      rw [mix_u F hr (by omega),bs,bs]
      unfold q60
      refine .inl ⟨_,rfl,⟨mix0_rng hr,i+8,?_,by omega⟩,?_⟩
      · simp only
        rw [w64_id (by omega) (by omega)]
        omega
      · simp only
        rw [w64_id (by omega) (by omega)]
        omega
    · rw [if_neg (df (show ¬ (i:Int)<len b by rw [lN]; omega))]
      exact .inr ⟨_,rfl,hx⟩) F (mix0 (wu64 (len b)),0) ⟨mix0_rng h0,0,rfl,by omega⟩ (by simp only; omega)
  refine ⟨o1,?_,h4⟩
  unfold q1e q7i
  rw [mix_u F h0 (by omega),bs,h1]
  rfl
theorem derive_u (F:Nat) (x:Int) (hx:I64 x) (hF:1000000020<F):∃y,q3a F 0 [104,97,115,104] [x]=some y∧I64 y:=by
  obtain⟨y,h1,h2⟩:=tag_u F ([104,97,115,104,0]++leb 8 x) (by
    intro z hz
    rcases List.mem_append.1 hz with hz | hz
    · simp at hz
      unfold Byte
      omega
    · exact leb_byte _ _ z hz) (by rw [lA,lL]; simp) hF
  refine ⟨y,?_,h2⟩
  · unfold q3a q40
    obtain⟨F',rfl⟩:∃F',F=F'+1+1:=⟨F - 2,by omega⟩
    have s1:q1f (F'+1+1) [x] [] 0=some (.next ([Txb.mk 8 x],1)):=by
      unfold q1f
      rw [if_pos (by simp [len]),show idx [x] 0=some x from rfl,bs,app_small (by simp) (by omega),bs]
      rfl
    have s2:q1f (F'+1+1) [x] [Txb.mk 8 x] 1=some (.done [Txb.mk 8 x]):=by
      unfold q1f
      rw [if_neg (by simp [len])]
    rw [app_cat (by simp),bs,iter_step (body:=fun s:List Txb×Int=>q1f (F'+1+1) [x] s.1 s.2) s1,iter_stop (body:=fun s:List Txb×Int=>q1f (F'+1+1) [x] s.1 s.2) s2,bs]
    unfold q62
    rw [oput_ok (F'+1+1) [Txb.mk 8 x] (by
      intro f hf
      simp at hf
      subst hf
      exact⟨by simp,by simp,hx.1,hx.2,hx.2⟩) (by simp) (by simp; omega),bs,bs]
    have hp:putAll [Txb.mk 8 x]=leb 8 x:=by simp [putAll]
    rw [hp,join_three _ _ _ _ (by omega) (by rw [lL]; simp),bs]
    show (q1e (F'+1+1) 0 ([104,97,115,104,0]++leb 8 x)).bind _=_
    rw [h1]
    rfl
def hat (a:Tx1):List Int:=(leb 2 a.Handle++leb 8 a.fT.Low++leb 8 a.fT.High)++(if decl a.fT=true then leb 2 (a.Value.length:Int)++a.Value else [])
def hbs (db:List Tx1):List Int:=db.foldl (fun b a=>b++hat a) []
theorem hat_len {a:Tx1} (h:a.Value.length≤8192):(hat a).length≤8300:=by
  unfold hat
  rw [lA,lA,lA,lL,lL,lL]
  by_cases hd:decl a.fT=true
  · rw [if_pos hd,lA,lL]; omega
  · rw [if_neg hd,List.length_nil]; omega
theorem hat_byte {a:Tx1} (h:AOk a):∀x∈hat a,Byte x:=by
  intro x hx
  unfold hat at hx
  rcases List.mem_append.1 hx with hx | hx
  · rcases List.mem_append.1 hx with hx | hx
    · rcases List.mem_append.1 hx with hx | hx
      · exact leb_byte _ _ x hx
      · exact leb_byte _ _ x hx
    · exact leb_byte _ _ x hx
  · by_cases hd:decl a.fT=true
    · rw [if_pos hd] at hx
      rcases List.mem_append.1 hx with hx | hx
      · exact leb_byte _ _ x hx
      · exact h.b x hx
    · rw [if_neg hd] at hx
      cases hx
theorem hbs_inv:∀(db:List Tx1) (b:List Int),(∀a∈db,AOk a)→(∀a∈db,a.Value.length≤8192)→(∀x∈b,Byte x)→(∀x∈db.foldl (fun b a=>b++hat a) b,Byte x)∧(db.foldl (fun b a=>b++hat a) b).length≤b.length+8300 * db.length
  | [],b,_,_,hb=>⟨hb,by simp⟩
  | a::r,b,h1,h2,hb=>by
    have ih:=hbs_inv r (b++hat a) (fun c hc=>h1 c (by simp [hc])) (fun c hc=>h2 c (by simp [hc])) (by
      intro x hx
      rcases List.mem_append.1 hx with hx | hx
      · exact hb x hx
      · exact hat_byte (h1 a (by simp)) x hx)
    have hl:=hat_len (h2 a (by simp))
    rw [List.foldl_cons,List.length_cons]
    refine ⟨ih.1,Nat.le_trans ih.2 ?_⟩
    rw [lA]
    omega
theorem u_hbs (F:Nat) (db:List Tx1) (hdb:∀a∈db,AOk a) (hv:∀a∈db,a.Value.length≤8192) (hn:db.length≤1000) (hF:2000<F):iter (fun s:List Int×Int=>q1g F db s.1 s.2) F ([],0)=some (hbs db):=by
  have:=iter_fold2 (body:=fun s:List Int×Int=>q1g F db s.1 s.2) db (fun b a=>b++hat a) (fun b i=>(b,(i:Int))) (fun b=>b) (fun i b=>b.length≤8300 * i) (by
    intro i a b hx hb
    have hi:=(gS.1 hx).1
    have ha:=hdb a (List.mem_of_getElem? hx)
    have hva:=hv a (List.mem_of_getElem? hx)
    have hl:=hat_len hva
    refine ⟨?_,by rw [lA]; omega⟩
    show q1g F db b (i:Int)=_
    unfold q1g
    have n1:=number_ok F 2 a.Handle (by decide) (by decide) ha.h0 (by have:=ha.h1; omega) (by have:=ha.h1; rw [show (256:Int) ^ 2=65536 from rfl]; omega) (by omega)
    have n2:=number_ok F 8 a.fT.Low (by decide) (by decide) ha.u.l0 ha.u.l1 (by rw [show (256:Int) ^ 8=18446744073709551616 from rfl]; exact ha.u.l1) (by omega)
    have n3:=number_ok F 8 a.fT.High (by decide) (by decide) ha.u.h0 ha.u.h1 (by rw [show (256:Int) ^ 8=18446744073709551616 from rfl]; exact ha.u.h1) (by omega)
    rw [show ((2:Nat):Int)=2 from rfl] at n1
    rw [show ((8:Nat):Int)=8 from rfl] at n2 n3
    rw [if_pos (dt (show (i:Int)<len db by rw [lN]; omega)),dN,hx,bs,wu64_id (x:=a.Handle) ha.h0 (by have:=ha.h1; omega),n1,bs,n2,bs,n3,bs,join_three F _ _ _ (by omega) (by rw [lL,lL,lL]; omega),bs,app_cat (by rw [lA,lA,lL,lL,lL]; omega),bs]
    unfold q64 hat
    rw [declaration_ok F ha.u (by omega),bs]
    by_cases hd:decl a.fT=true
    · have n4:=number_ok F 2 (a.Value.length:Int) (by decide) (by decide) (by omega) (by omega) (by rw [show (256:Int) ^ 2=65536 from rfl]; omega) (by omega)
      rw [show ((2:Nat):Int)=2 from rfl] at n4
      rw [if_pos hd,if_pos hd,lN,wu64_id (x:=(a.Value.length:Int)) (by omega) (by omega),n4,bs,join_two F _ _ (by omega) (by rw [lL]; omega),bs,app_cat (by simp only [lA,lL]; omega),bs]
      unfold q41
      rw [wN i (by omega),List.append_assoc]
    · rw [if_neg hd,if_neg hd]
      unfold q41
      rw [wN i (by omega),List.append_nil]) (by
    intro b _
    show q1g F db b (db.length:Int)=_
    unfold q1g
    rw [if_neg (df (by rw [lN]; omega))]) F 0 [] (by omega) (by simp) (by omega)
  rw [List.drop_zero] at this
  exact this
theorem hash_u (F:Nat) (db:List Tx1) (hdb:∀a∈db,AOk a) (hv:∀a∈db,a.Value.length≤8192) (hn:db.length≤1000) (hF:1000000020<F):∃y,q18 F db=some y∧I64 y:=by
  have hi:=hbs_inv db [] hdb hv (by simp)
  obtain⟨x,h1,h3⟩:=tag_u F (hbs db) hi.1 (Nat.le_trans hi.2 (by simp; omega)) hF
  obtain⟨y,h4,h5⟩:=derive_u F x h3 hF
  refine ⟨imax 1 y,?_,?_⟩
  · unfold q18
    rw [u_hbs F db hdb hv hn (by omega),bs]
    unfold q63
    rw [h1,bs,h4,bs]
  · unfold I64 at h5 ⊢
    unfold imax
    split <;> omega
end V
end Go.Proofs.YtoahakdkgefgiaaGreat

namespace Go.Proofs.YtoahakdkgefgiaaGreat
namespace V
theorem upd_at {α:Type} {l:List α} {i:Nat} {x:α} (h:l[i]? = some x):upd l (i:Int) x=some l:=by
  obtain⟨h1,h2⟩:=gS.1 h
  unfold upd
  rw [if_pos ⟨by omega,by omega⟩,Int.toNat_natCast,← h2,List.set_getElem_self]
structure SvOk (s:Tx8):Prop where
  d:s.DB.length≤10000000
  dv:∀a∈s.DB,a.Value.length≤140737488355328
  q:s.Queue.length≤10000000
  qv:∀a∈s.Queue,a.Value.length≤140737488355328
  o:s.Out.length≤10000000
  ov:∀a∈s.Out,a.Value.length≤140737488355328
  sb:s.Subs.length≤10000000
theorem uof (F:Nat) (s:Tx8) (h:SvOk s) (hF:10000010<F):q1x F s=some (Txa.mk s []):=by
  obtain⟨h1,h2,h3,h4,h5,h6,h7⟩:=h
  unfold q1x
  rw [uattrs F s.DB h2 h1 (by omega),bs,uclone F s.Subs h7,bs]
  have e1:q1a F s.Queue=some s.Queue:=by
    unfold q1a
    rw [app_k (by decide) (by simp; omega),bs,List.nil_append]
  have e2:q2j F s.Out=some s.Out:=by
    unfold q2j
    rw [app_k (by decide) (by simp; omega),bs,List.nil_append]
  rw [e1,e2,bs,bs]
  show q4r F s s=_
  unfold q4r
  have:=iter_count (body:=fun t:List Tx7×Int=>q1w F s t.1 t.2) (fun i=>(s.Queue,(i:Int))) s.Queue.length s.Queue (by
    intro i hi
    have hx:s.Queue[i]? = some s.Queue[i]:=gE hi
    have hv:=h4 _ (gM hi)
    generalize s.Queue[i]=x at hx hv
    show q1w F s s.Queue (i:Int)=_
    unfold q1w
    rw [if_pos (dt (by rw [lN]; omega)),dN,hx]
    simp only [bs]
    rw [join_one F _ (by omega) hv,bs]
    have hu:upd s.Queue (i:Int) ({ x with Value:=x.Value }:Tx7)=some s.Queue:=upd_at hx
    rw [hu,bs,wN i (by omega)]) (by
    show q1w F s s.Queue (s.Queue.length:Int)=_
    unfold q1w
    rw [if_neg (df (by rw [lN]; omega))]) F 0 (by omega) (by omega)
  rw [show ((0:Nat):Int)=0 from rfl] at this
  rw [this,bs]
  unfold q5w
  have:=iter_count (body:=fun t:List Tx3×Int=>q1v F s t.1 t.2) (fun i=>(s.Out,(i:Int))) s.Out.length s.Out (by
    intro i hi
    have hx:s.Out[i]? = some s.Out[i]:=gE hi
    have hv:=h6 _ (gM hi)
    generalize s.Out[i]=x at hx hv
    show q1v F s s.Out (i:Int)=_
    unfold q1v
    rw [if_pos (dt (by rw [lN]; omega)),dN,hx]
    simp only [bs]
    rw [join_one F _ (by omega) hv,bs]
    have hu:upd s.Out (i:Int) ({ x with Value:=x.Value }:Tx3)=some s.Out:=upd_at hx
    rw [hu,bs,wN i (by omega)]) (by
    show q1v F s s.Out (s.Out.length:Int)=_
    unfold q1v
    rw [if_neg (df (by rw [lN]; omega))]) F 0 (by omega) (by omega)
  rw [show ((0:Nat):Int)=0 from rfl] at this
  rw [this,bs]
  rfl
structure IOk (x:Tx2):Prop where
  h0:0≤x.Handle
  h1:x.Handle<65536
  l0:0≤x.Last
  l1:x.Last<65536
  u:UOk x.fT
  v:x.Value.length≤140737488351232
structure POk (p:Tx3):Prop where
  l:p.List.length≤140737488355328
  i:∀x∈p.List,IOk x
  h0:0≤p.Handle
  h1:p.Handle<65536
  u:UOk p.fT
  v:p.Value.length≤140737488355328
  b:∀x∈p.Value,Byte x
theorem fld7 (F:Nat) (z:Bool):∃u,q3n F z=some u:=by
  unfold q3n
  split <;> exact⟨_,rfl⟩
theorem fld6 (F:Nat) (k:Int) (z:Bool):∃u,q3o F k z=some u:=by
  unfold q3o
  repeat' split
  all_goals first | exact⟨_,rfl⟩ | exact fld7 F _
theorem fld5 (F:Nat) (k:Int) (z:Bool):∃u,q45 F k z=some u:=by
  unfold q45
  repeat' split
  all_goals first | exact⟨_,rfl⟩ | exact fld6 F _ _
theorem fld4 (F:Nat) (k:Int) (z:Bool):∃u,q2t F k z=some u:=by
  unfold q2t
  repeat' split
  all_goals first | exact⟨_,rfl⟩ | exact fld5 F _ _
theorem fld3 (F:Nat) (k:Int) (z:Bool):∃u,q46 F k z=some u:=by
  unfold q46
  repeat' split
  all_goals first | exact⟨_,rfl⟩ | exact fld4 F _ _
theorem fld2 (F:Nat) (k:Int) (z:Bool):∃u,q47 F k z=some u:=by
  unfold q47
  repeat' split
  all_goals first | exact⟨_,rfl⟩ | exact fld3 F _ _
theorem fld1 (F:Nat) (k:Int) (z:Bool):∃u,q48 F k z=some u:=by
  unfold q48
  repeat' split
  all_goals first | exact⟨_,rfl⟩ | exact fld2 F _ _
theorem fld0 (F:Nat) (k:Int):∃u,qb F k=some u:=by
  unfold qb
  repeat' split
  all_goals first | exact⟨_,rfl⟩ | exact fld1 F _ _
theorem runused (F:Nat) (p:Tx3):∃b,qy F p=some b:=by
  unfold qy
  obtain⟨u,h⟩:=fld0 F p.Kind
  rw [h,bs]
  have hz:∃z,(if ((((!u.Asked)&&(p.Asked != 0))||((!u.Handle)&&(p.Handle != 0)))||((!u.Last)&&(p.Last != 0)))=true then some (true)
    else if (!u.fT)=true then some ((!((p.fT.High == 0)&&(p.fT.Low == 0)))) else some (false))=some z:=by
    repeat' split
    all_goals exact⟨_,rfl⟩
  obtain⟨z,hz⟩:=hz
  rw [hz,bs]
  repeat' split
  all_goals exact⟨_,rfl⟩
theorem ritem (F:Nat) (k:Int) {x:Tx2} (h:IOk x) (hF:30<F):∃b,qi F k x=some b:=by
  obtain⟨h0,h1,l0,l1,hu,hv⟩:=h
  have p1:=rput_ok F x.Handle 2 (by omega) (by omega) h0 (by omega)
  have p2:=rput_ok F x.Last 2 (by omega) (by omega) l0 (by omega)
  rw [show ((2:Nat):Int)=2 from rfl] at p1 p2
  have hl:=encU_len x.fT
  unfold qi q49
  rw [wu64_id h0 (by omega),p1,bs,wu64_id l0 (by omega),p2,rencode F hu (by omega)]
  split
  · rw [bs,app_cat (by rw [lL]; omega)]
    exact⟨_,rfl⟩
  · split
    · rw [bs,app_cat (by rw [lL,lL]; decide),bs,app_cat (by rw [lA,lL,lL]; omega)]
      exact⟨_,rfl⟩
    · rw [app_cat (by rw [lL]; omega)]
      exact⟨_,rfl⟩
theorem rcheckItem (F:Nat) (k:Int) {l:List Tx2} (h:∀x∈l,IOk x) (i:Nat) (hi:i<l.length) (hl:l.length≤140737488355328) (hF:30<F):∃e,q1j F k l i=some e:=by
  have hx:l[i]? = some l[i]:=gE hi
  have hok:=h _ (gM hi)
  generalize l[i]=x at hx hok
  have h0:l[0]? = some l[0]:=gE (by omega)
  have hok0:=h _ (gM (show 0<l.length by omega))
  generalize l[0]=y at h0 hok0
  have i0:idx l 0=some y:=h0
  obtain⟨b1,k1⟩:=ritem F k hok hF
  obtain⟨b2,k2⟩:=ritem F k hok0 hF
  have hj:∀z,∃e,q1i F k l x z=some e:=by
    intro z
    unfold q1i q4a
    split
    · exact⟨_,rfl⟩
    · rw [i0,bs,k1,bs,k2,bs]
      split <;> exact⟨_,rfl⟩
  unfold q1j
  rw [dN,hx,bs]
  have hz:∃z,(if (!(k == 5))=true then some ((!((x.fT.High == 0)&&(x.fT.Low == 0)))) else some (false))=some z:=by
    split <;> exact⟨_,rfl⟩
  obtain⟨z,hz⟩:=hz
  rw [hz,bs]
  split
  · exact⟨_,rfl⟩
  · split
    · exact⟨_,rfl⟩
    · split
      · rename_i hc
        have hc:=of_decide_eq_true hc
        have hp:l[i - 1]? = some l[i - 1]:=gE (by omega)
        rw [w64_id (by omega) (by omega),show (i:Int) - 1=((i - 1:Nat):Int) from by omega,dN,hp,bs,bs]
        exact hj _
      · exact hj _
theorem rcheckPDU (F:Nat) {p:Tx3} (h:POk p) (hF:p.List.length+30<F):∃e,qa F p=some e:=by
  unfold qa
  obtain⟨u,hu⟩:=fld0 F p.Kind
  obtain⟨b,hb⟩:=runused F p
  have hlst:∃e,q11 F p=some e:=by
    unfold q11
    split
    · exact⟨_,rfl⟩
    · rename_i hne
      have hpos:0<p.List.length:=by
        by_cases e:p.List.length=0
        · exact absurd (by rw [lN,e]; rfl) hne
        · omega
      have hl:=h.l
      obtain⟨o,g1,g2⟩:=iter_by (body:=fun s:Int=>qc F p s) (fun s=>∃i:Nat,s=(i:Int)∧i≤p.List.length) (fun _=>True) (fun s=>p.List.length - s.toNat) (by
        rintro s ⟨i,rfl,hi⟩
        show (∃s',qc F p (i:Int)=some (.next s')∧_)∨∃o,qc F p (i:Int)=some (.done o)∧_
        unfold qc
        by_cases hin:i<p.List.length
        · rw [if_pos (dt (show (i:Int)<len p.List by rw [lN]; omega))]
          obtain⟨e,he⟩:=rcheckItem F p.Kind h.i i hin hl (by omega)
          rw [he,bs]
          split
          · exact .inr ⟨_,rfl,trivial⟩
          · exact .inl ⟨_,rfl,⟨i+1,wN i (by omega),by omega⟩,by rw [wN i (by omega)]; omega⟩
        · rw [if_neg (df (show ¬ (i:Int)<len p.List by rw [lN]; omega))]
          exact .inr ⟨_,rfl,trivial⟩) F 0 ⟨0,rfl,by omega⟩ (by simp; omega)
      rw [g1,bs]
      cases o with
      | inr e=>exact⟨_,rfl⟩
      | inl _=>
        have h0:p.List[0]? = some p.List[0]:=gE hpos
        have hok0:=h.i _ (gM hpos)
        generalize p.List[0]=y at h0 hok0
        have i0:idx p.List 0=some y:=h0
        obtain⟨b2,k2⟩:=ritem F p.Kind hok0 (by omega)
        simp only
        unfold q3p q4b
        rw [i0,bs,k2,bs]
        split <;> exact⟨_,rfl⟩
  obtain⟨e,he⟩:=hlst
  rw [hu,bs,hb,bs,he,bs]
  repeat' split
  all_goals exact⟨_,rfl⟩
end V
end Go.Proofs.YtoahakdkgefgiaaGreat

namespace Go.Proofs.YtoahakdkgefgiaaGreat
namespace V
structure Inv (s:Tx8) (n:Nat):Prop where
  d:s.DB.length≤80
  a:∀a∈s.DB,AOk a∧a.Value.length≤4096
  sb:s.Subs.length≤n
  q:s.Queue.length≤16
  qv:∀x∈s.Queue,(∀y∈x.Value,Byte y)∧x.Value.length≤4096
  o:s.Out.length≤64
  ov:∀x∈s.Out,x.Value.length≤4096
theorem Inv.sv {s:Tx8} {n:Nat} (h:Inv s n) (hn:n≤1000):SvOk s:=
  ⟨by have:=h.d; omega,fun a ha=>by have:=(h.a a ha).2; omega,by have:=h.q; omega,fun a ha=>by have:=(h.qv a ha).2; omega,by have:=h.o; omega,fun a ha=>by have:=h.ov a ha; omega,by have:=h.sb; omega⟩
theorem Inv.up {s:Tx8} {n m:Nat} (h:Inv s n) (hn:n≤m):Inv s m:=⟨h.d,h.a,by have:=h.sb; omega,h.q,h.qv,h.o,h.ov⟩
theorem and_ff {a b:Bool} (h:a=false):¬ (a&&b)=true:=by rw [h]; simp
theorem own_some (F:Nat) (db:List Tx1) (i:Nat) (hi:i<db.length) (hn:db.length≤9000000000000000) (hF:db.length+5<F):∃r,qr F db i=some r:=by
  have key:∀(k f:Nat),k≤db.length→k<f→∃o,iter (fun s=>qk F db s) f ((k:Int) - 1)=some o:=by
    intro k
    induction k with
    | zero=>
      intro f _ hf
      match f,hf with
      | f+1,_=>
      refine ⟨_,iter_stop (o:=.inl ()) ?_⟩
      show qk F db _=_
      unfold qk
      rw [if_neg (df (by omega))]
      rfl
    | succ k ih=>
      intro f hk hf
      match f,hf with
      | f+1,hf=>
      have hx:db[k]? = some db[k]:=gE (by omega)
      generalize hq:db[k]=a at hx
      rw [show ((k+1:Nat):Int) - 1=(k:Int) from by omega]
      have hb:(∃o,qk F db (k:Int)=some (.done o))∨qk F db (k:Int)=some (.next ((k:Int) - 1)):=by
        unfold qk
        rw [if_pos (dt (by omega)),dN,hx]
        simp only [bs]
        rw [sis F _ _ (by decide) (by decide),sis F _ _ (by decide) (by decide),sis F _ _ (by decide) (by decide)]
        simp only [bs]
        cases h1:isN a.fT 10240 with
        | true=>exact .inl ⟨_,rfl⟩
        | false=>
        cases h2:isN a.fT 10241 with
        | true=>exact .inl ⟨_,rfl⟩
        | false=>
        simp only [Bool.not_false,if_true,bs]
        split
        · rename_i hc
          rw [Bool.and_eq_true] at hc
          have hl:=of_decide_eq_true hc.2
          rw [lN] at hl
          left
          match hv:a.Value,hl with
          | x::y::z::r,_=>exact⟨_,rfl⟩
          | [],h=>exact absurd h (by simp)
          | [_],h=>exact absurd h (by simp)
          | [_,_],h=>exact absurd h (by simp)
        · right
          rw [w64_id (by omega) (by omega)]
      rcases hb with ⟨o,hb⟩ | hb
      · exact⟨_,iter_stop hb⟩
      · rw [iter_step hb]
        exact ih f (by omega) (by omega)
  unfold qr
  obtain⟨o,h⟩:=key (i+1) F (by omega) (by omega)
  rw [show ((i+1:Nat):Int) - 1=(i:Int) from by omega] at h
  rw [h,bs]
  cases o with
  | inl u=>exact⟨_,rfl⟩
  | inr e=>exact⟨_,rfl⟩
theorem sbn_some (F:Nat) (x:Txa) (h:Int) (hn:x.Server.Subs.length≤1000) (hF:1000000020<F):∃i,q15 F x h=some i∧(i = -1∨∃k:Nat,i=(k:Int)∧k<x.Server.Subs.length):=by
  unfold q15 q3x
  generalize x.Server.Subs=l at hn
  obtain⟨o,h1,h2⟩:=iter_by (body:=fun s:Int×Int=>q2l F l s.1 s.2) (fun s=>∃i:Nat,s.2=(i:Int)∧i≤l.length) (fun o=>(∃u:Int,o = .inl u)∨∃(k:Nat) (u:Int),o = .inr ((k:Int),u)∧k<l.length) (fun s=>l.length - s.2.toNat) (by
    rintro⟨c,s⟩ ⟨i,hx,hi⟩
    simp only at hx
    subst hx
    show (∃s',q2l F l c (i:Int)=some (.next s')∧_)∨∃o,q2l F l c (i:Int)=some (.done o)∧_
    unfold q2l q3w
    by_cases hin:i<l.length
    · rw [if_pos (dt (show (i:Int)<len l by rw [lN]; omega)),dN,gE hin,bs,bs]
      split
      · exact .inr ⟨_,rfl,.inr ⟨i,_,rfl,hin⟩⟩
      · exact .inl ⟨_,rfl,⟨i+1,wN i (by omega),by omega⟩,by simp only; rw [wN i (by omega)]; omega⟩
    · rw [if_neg (df (show ¬ (i:Int)<len l by rw [lN]; omega))]
      exact .inr ⟨_,rfl,.inl ⟨_,rfl⟩⟩) F (h,0) ⟨0,rfl,by omega⟩ (by simp only; omega)
  rw [h1]
  rcases h2 with ⟨u,rfl⟩ | ⟨k,u,rfl,hk⟩
  · exact⟨_,rfl,.inl rfl⟩
  · exact⟨_,rfl,.inr ⟨k,rfl,hk⟩⟩
theorem sbc_some (F:Nat) (x:Txa) (h n:Int) (hn:x.Server.Subs.length≤1000) (hF:1000000020<F):∃l,q37 F x h n=some { x with Server:={ x.Server with Subs:=l } }∧l.length≤x.Server.Subs.length+1:=by
  unfold q37
  obtain⟨i,h1,h2⟩:=sbn_some F x h hn hF
  rw [h1,bs]
  unfold q36
  rcases h2 with rfl | ⟨k,rfl,hk⟩
  · rw [if_neg (and_ff (by decide)),if_neg (by decide)]
    split
    · obtain⟨o,g1,k,rfl,hk⟩:=iter_by (body:=fun s:Int=>q2m F x h s) (fun s=>∃i:Nat,s=(i:Int)∧i≤x.Server.Subs.length) (fun o=>∃k:Nat,o=(k:Int)∧k≤x.Server.Subs.length) (fun s=>x.Server.Subs.length - s.toNat) (by
        rintro s ⟨i,rfl,hi⟩
        show (∃s',q2m F x h (i:Int)=some (.next s')∧_)∨∃o,q2m F x h (i:Int)=some (.done o)∧_
        unfold q2m
        by_cases hin:i<x.Server.Subs.length
        · rw [if_pos (dt (show (i:Int)<len x.Server.Subs by rw [lN]; omega)),dN,gE hin,bs,bs]
          split
          · exact .inl ⟨_,rfl,⟨i+1,wN i (by omega),by omega⟩,by rw [wN i (by omega)]; omega⟩
          · exact .inr ⟨_,rfl,i,rfl,hi⟩
        · rw [if_neg (df (show ¬ (i:Int)<len x.Server.Subs by rw [lN]; omega)),bs,if_neg (by decide)]
          exact .inr ⟨_,rfl,i,rfl,hi⟩) F 0 ⟨0,rfl,by omega⟩ (by simp; omega)
      rw [g1,bs]
      unfold q5x q35
      rw [if_pos ⟨by omega,by omega,rfl,by omega⟩,bs]
      refine ⟨_,rfl,?_⟩
      simp only [Int.toNat_natCast,lA,List.length_take,List.length_drop,List.length_cons,List.length_nil]
      omega
    · exact⟨_,rfl,by omega⟩
  · split
    · unfold q34
      rw [wN k (by omega),if_pos ⟨by omega,by omega,by omega⟩,bs]
      refine ⟨_,rfl,?_⟩
      simp only [Int.toNat_natCast,lA,List.length_take,List.length_drop]
      omega
    · rw [if_pos (dt (by omega)),dN,gE hk,bs]
      unfold upd
      rw [if_pos ⟨by omega,by omega⟩,bs]
      exact⟨_,rfl,by simp⟩
theorem set_mem {α:Type} {l:List α} {i:Nat} {v x:α} (h:x∈l.set i v):x∈l∨x=v:=List.mem_or_eq_of_mem_set h
theorem val_ok {a:Tx1} (h:AOk a) {v:List Int} (hv:∀x∈v,Byte x) (hl:v.length≤4096):AOk { a with Value:=v }∧v.length≤4096:=⟨⟨h.h0,h.h1,h.u,hv,by show v.length≤_; omega⟩,hl⟩
theorem shw_some (F:Nat) {x:Txa} {n:Nat} (h:Inv x.Server n) (hn:n≤900) {k:Nat} (hk:k<x.Server.DB.length) (hF:1000000020<F):∃b,q26 F x k=some b∧b.length≤4096:=by
  have hd:=h.d
  have hsb:=h.sb
  have hx:x.Server.DB[k]? = some x.Server.DB[k]:=gE hk
  have hak:=h.a _ (gM hk)
  generalize x.Server.DB[k]=a at hx hak
  unfold q26
  rw [dN,hx,bs,sis F _ _ (by decide) (by decide),bs]
  split
  · obtain⟨y,h1,h2⟩:=hash_u F x.Server.DB (fun a ha=>(h.a a ha).1) (fun a ha=>by have:=(h.a a ha).2; omega) (by omega) hF
    have hfo:∀f∈[Txb.mk 8 y],FieldOk f:=by
      intro f hf
      simp at hf
      subst hf
      exact⟨by simp,by simp,h2.1,h2.2,h2.2⟩
    rw [h1,bs,oput_ok F [Txb.mk 8 y] hfo (by simp) (by simp; omega),bs]
    refine ⟨_,rfl,?_⟩
    have:=putAll_len hfo
    simp only [List.length_cons,List.length_nil] at this
    simp only
    omega
  · rw [sis F _ _ (by decide) (by decide),bs]
    split
    · obtain⟨r,hr⟩:=own_some F x.Server.DB k hk (by omega) (by omega)
      obtain⟨i,g1,g2⟩:=sbn_some F x r.2.1 (by omega) hF
      rw [hr,bs,g1]
      simp only [bs]
      unfold q4t
      by_cases hz:r.2.2=true
      · rw [if_pos hz,bs]
        rcases g2 with rfl | ⟨j,rfl,hj⟩
        · rw [if_neg (by decide)]
          exact⟨_,rfl,by simp⟩
        · rw [if_pos (dt (by omega)),dN,gE hj,bs]
          exact⟨_,rfl,by simp⟩
      · rw [if_neg hz,bs,if_neg (by decide)]
        exact⟨_,rfl,by simp⟩
    · rw [join_one F _ (by omega) (by have:=hak.2; omega),bs]
      exact⟨_,rfl,hak.2⟩
end V
end Go.Proofs.YtoahakdkgefgiaaGreat

namespace Go.Proofs.YtoahakdkgefgiaaGreat
namespace V
theorem put2 (F:Nat) (x:Int) (hF:30<F):∃b,q9 F (wu64 x) 2=some b∧b.length=2:=by
  have h0:0≤wu64 x:=by unfold wu64; omega
  have h1:wu64 x<18446744073709551616:=by unfold wu64; omega
  have:=rput_ok F (wu64 x) 2 (by omega) (by omega) h0 h1
  rw [show ((2:Nat):Int)=2 from rfl] at this
  exact⟨_,this,lL _ _⟩
def b2 (b:Bool) (n:Nat):Nat:=if b=true then n else 0
def r9 (p:Tx3):Nat:=p.Value.length
def r8 (u:Txd) (p:Tx3):Nat:=b2 u.Commit 1+r9 p
def r7 (u:Txd) (p:Tx3):Nat:=b2 u.Code 1+r8 u p
def r6 (u:Txd) (p:Tx3):Nat:=b2 u.MTU 2+r7 u p
def r5 (u:Txd) (p:Tx3):Nat:=b2 u.Offset 2+r6 u p
def r4 (u:Txd) (p:Tx3):Nat:=b2 u.fT (encU p.fT).length+r5 u p
def r3 (u:Txd) (p:Tx3):Nat:=b2 u.Last 2+r4 u p
def r2 (u:Txd) (p:Tx3):Nat:=b2 u.Handle 2+r3 u p
def r1 (u:Txd) (p:Tx3):Nat:=1+b2 u.Asked 1+r2 u p
section
variable {F:Nat} {p:Tx3} {u:Txd} (hv:p.Value.length≤512) (hT:UOk p.fT) (hF:30<F)
include hv
theorem e9 (l:List Int) (hl:l.length≤100):∃c,q3r F p l=some (c,0)∧c.length=l.length+r9 p:=by
  unfold q3r
  rw [app_cat (by omega),bs]
  exact⟨_,rfl,by rw [lA]; rfl⟩
theorem e8 (l:List Int) (hl:l.length≤90):∃c,q4c F p u l=some (c,0)∧c.length=l.length+r8 u p:=by
  unfold q4c r8 b2
  cases hc:u.Commit with
  | false=>
    rw [Bool.false_and,if_neg (by decide),if_neg (by decide),if_neg (by decide)]
    obtain⟨c,h1,h2⟩:=e9 (F:=F) hv l (by omega)
    exact⟨c,h1,by omega⟩
  | true=>
    rw [if_pos rfl]
    by_cases hq:(true&&p.Commit)=true
    · rw [if_pos hq,app_cat (by simp; omega),bs]
      obtain⟨c,h1,h2⟩:=e9 (F:=F) hv (l++[1]) (by simp; omega)
      exact⟨c,h1,by rw [h2]; simp; omega⟩
    · rw [if_neg hq,if_pos rfl,app_cat (by simp; omega),bs]
      obtain⟨c,h1,h2⟩:=e9 (F:=F) hv (l++[0]) (by simp; omega)
      exact⟨c,h1,by rw [h2]; simp; omega⟩
theorem e7 (l:List Int) (hl:l.length≤80):∃c,q4d F p u l=some (c,0)∧c.length=l.length+r7 u p:=by
  unfold q4d r7 b2
  by_cases hc:u.Code=true
  · rw [if_pos hc,if_pos hc,app_cat (by simp; omega),bs]
    obtain⟨c,h1,h2⟩:=e8 (F:=F) (u:=u) hv (l++[wu8 p.Code]) (by simp; omega)
    exact⟨c,h1,by rw [h2]; simp; omega⟩
  · rw [if_neg hc,if_neg hc]
    obtain⟨c,h1,h2⟩:=e8 (F:=F) (u:=u) hv l (by omega)
    exact⟨c,h1,by omega⟩
include hF
theorem e6 (l:List Int) (hl:l.length≤70):∃c,q4e F p u l=some (c,0)∧c.length=l.length+r6 u p:=by
  unfold q4e r6 b2
  obtain⟨b,hb,hbl⟩:=put2 F p.MTU hF
  by_cases hc:u.MTU=true
  · rw [if_pos hc,if_pos hc,hb,bs,app_cat (by omega),bs]
    obtain⟨c,h1,h2⟩:=e7 (F:=F) (u:=u) hv (l++b) (by rw [lA]; omega)
    exact⟨c,h1,by rw [h2,lA]; omega⟩
  · rw [if_neg hc,if_neg hc]
    obtain⟨c,h1,h2⟩:=e7 (F:=F) (u:=u) hv l (by omega)
    exact⟨c,h1,by omega⟩
theorem e5 (l:List Int) (hl:l.length≤60):∃c,q4f F p u l=some (c,0)∧c.length=l.length+r5 u p:=by
  unfold q4f r5 b2
  obtain⟨b,hb,hbl⟩:=put2 F p.Offset hF
  by_cases hc:u.Offset=true
  · rw [if_pos hc,if_pos hc,hb,bs,app_cat (by omega),bs]
    obtain⟨c,h1,h2⟩:=e6 (F:=F) (u:=u) hv hF (l++b) (by rw [lA]; omega)
    exact⟨c,h1,by rw [h2,lA]; omega⟩
  · rw [if_neg hc,if_neg hc]
    obtain⟨c,h1,h2⟩:=e6 (F:=F) (u:=u) hv hF l (by omega)
    exact⟨c,h1,by omega⟩
include hT
theorem e4 (l:List Int) (hl:l.length≤40):∃c,q4g F p u l=some (c,0)∧c.length=l.length+r4 u p:=by
  unfold q4g r4 b2
  have hel:=encU_len p.fT
  by_cases hc:u.fT=true
  · rw [if_pos hc,if_pos hc,rencode F hT (by omega),bs,app_cat (by omega),bs]
    obtain⟨c,h1,h2⟩:=e5 (F:=F) (u:=u) hv hF (l++encU p.fT) (by rw [lA]; omega)
    exact⟨c,h1,by rw [h2,lA]; omega⟩
  · rw [if_neg hc,if_neg hc]
    obtain⟨c,h1,h2⟩:=e5 (F:=F) (u:=u) hv hF l (by omega)
    exact⟨c,h1,by omega⟩
theorem e3 (l:List Int) (hl:l.length≤30):∃c,q4h F p u l=some (c,0)∧c.length=l.length+r3 u p:=by
  unfold q4h r3 b2
  obtain⟨b,hb,hbl⟩:=put2 F p.Last hF
  by_cases hc:u.Last=true
  · rw [if_pos hc,if_pos hc,hb,bs,app_cat (by omega),bs]
    obtain⟨c,h1,h2⟩:=e4 (F:=F) (u:=u) hv hT hF (l++b) (by rw [lA]; omega)
    exact⟨c,h1,by rw [h2,lA]; omega⟩
  · rw [if_neg hc,if_neg hc]
    obtain⟨c,h1,h2⟩:=e4 (F:=F) (u:=u) hv hT hF l (by omega)
    exact⟨c,h1,by omega⟩
theorem e2 (l:List Int) (hl:l.length≤20):∃c,q4i F p u l=some (c,0)∧c.length=l.length+r2 u p:=by
  unfold q4i r2 b2
  obtain⟨b,hb,hbl⟩:=put2 F p.Handle hF
  by_cases hc:u.Handle=true
  · rw [if_pos hc,if_pos hc,hb,bs,app_cat (by omega),bs]
    obtain⟨c,h1,h2⟩:=e3 (F:=F) (u:=u) hv hT hF (l++b) (by rw [lA]; omega)
    exact⟨c,h1,by rw [h2,lA]; omega⟩
  · rw [if_neg hc,if_neg hc]
    obtain⟨c,h1,h2⟩:=e3 (F:=F) (u:=u) hv hT hF l (by omega)
    exact⟨c,h1,by omega⟩
theorem e1:∃c,q53 F p u=some (c,0)∧c.length=r1 u p:=by
  unfold q53 r1 b2
  by_cases hc:u.Asked=true
  · rw [if_pos hc,if_pos hc,app_cat (by simp),bs]
    obtain⟨c,h1,h2⟩:=e2 (F:=F) (u:=u) hv hT hF ([wu8 p.Kind]++[wu8 p.Asked]) (by simp)
    exact⟨c,h1,by rw [h2]; simp⟩
  · rw [if_neg hc,if_neg hc]
    obtain⟨c,h1,h2⟩:=e2 (F:=F) (u:=u) hv hT hF [wu8 p.Kind] (by simp)
    exact⟨c,h1,by rw [h2]; simp⟩
end
theorem enc_plain (F:Nat) {p:Tx3} {u:Txd} (hc:qa F p=some 0) (hu:qb F p.Kind=some u) (hl:u.List=false) (hT:UOk p.fT) (hv:p.Value.length≤512) (hF:30<F):∃c,qq F p=some (c,0)∧c.length=r1 u p:=by
  unfold qq
  rw [hc,bs,if_neg (by decide),hu,bs,hl,if_neg (by decide)]
  exact e1 hv hT hF
def ib (k:Int) (x:Tx2):List Int:=if (k == 5)=true then leb 2 x.Handle++encU x.fT else if (k == 17)=true then leb 2 x.Handle++leb 2 x.Last++x.Value else leb 2 x.Handle++x.Value
theorem itb (F:Nat) (k:Int) {x:Tx2} (h:IOk x) (hF:30<F):qi F k x=some (ib k x):=by
  obtain⟨h0,h1,l0,l1,hu,hv⟩:=h
  have p1:=rput_ok F x.Handle 2 (by omega) (by omega) h0 (by omega)
  have p2:=rput_ok F x.Last 2 (by omega) (by omega) l0 (by omega)
  rw [show ((2:Nat):Int)=2 from rfl] at p1 p2
  have hl:=encU_len x.fT
  unfold qi q49 ib
  rw [wu64_id h0 (by omega),p1,bs,wu64_id l0 (by omega),p2,rencode F hu (by omega)]
  split
  · rw [bs,app_cat (by rw [lL]; omega),bs]
  · split
    · rw [bs,app_cat (by rw [lL,lL]; decide),bs,app_cat (by rw [lA,lL,lL]; omega),bs]
    · rw [app_cat (by rw [lL]; omega),bs]
structure Ls (k:Int) (l:List Tx2) (sz:Nat):Prop where
  ne:0<l.length
  s:∀x∈l,(ib k x).length=sz
  z:sz≤255
  t:2+sz * l.length≤517
theorem lst_enc (F:Nat) {p:Tx3} {u:Txd} {sz:Nat} (hc:qa F p=some 0) (hu:qb F p.Kind=some u) (hl:u.List=true) (hi:∀x∈p.List,IOk x) (h:Ls p.Kind p.List sz) (hF:1000000020<F):∃c,qq F p=some (c,0)∧c.length=2+sz * p.List.length:=by
  have hne:=h.ne
  have ht:=h.t
  have hlen:p.List.length≤517:=by
    by_cases hs:sz=0
    · have h0:p.List[0]? = some p.List[0]:=gE hne
      have:=h.s _ (gM hne)
      rw [hs] at this
      unfold ib at this
      split at this
      · rw [lA,lL] at this; omega
      · split at this
        · rw [lA,lA,lL] at this; omega
        · rw [lA,lL] at this; omega
    · have:1 * p.List.length≤sz * p.List.length:=Nat.mul_le_mul_right _ (by omega)
      omega
  have h0:idx p.List 0=some p.List[0]:=(dN p.List 0).trans (gE hne)
  have hio:=hi _ (gM hne)
  unfold qq
  rw [hc,bs,if_neg (by decide),hu,bs,hl,if_pos rfl,h0,bs,itb F _ hio (by omega),bs]
  have hj:∀y:Int,∃c,q3s F p y=some (c,0)∧c.length=2+sz * p.List.length:=by
    intro y
    unfold q3s q6o
    rw [app_cat (by simp),bs]
    obtain⟨o,g1,g2⟩:=iter_by (body:=fun s:List Int×Int=>q2u F p s.1 s.2) (fun s=>∃i:Nat,s.2=(i:Int)∧i≤p.List.length∧s.1.length=2+sz * i) (fun o=>o.length=2+sz * p.List.length) (fun s=>p.List.length - s.2.toNat) (by
      rintro⟨l,s⟩ ⟨i,hx,hi2,hs⟩
      simp only at hx hs
      subst hx
      show (∃s',q2u F p l (i:Int)=some (.next s')∧_)∨∃q,q2u F p l (i:Int)=some (.done q)∧_
      unfold q2u
      by_cases hin:i<p.List.length
      · have hx:p.List[i]? = some p.List[i]:=gE hin
        have hxi:=hi _ (gM hin)
        have hxs:=h.s _ (gM hin)
        generalize p.List[i]=x at hx hxi hxs
        have hm:sz * i≤sz * p.List.length:=Nat.mul_le_mul_left _ (by omega)
        have hz:=h.z
        rw [if_pos (dt (show (i:Int)<len p.List by rw [lN]; omega)),dN,hx,bs,itb F _ hxi (by omega),bs,app_cat (by omega),bs]
        refine .inl ⟨_,rfl,⟨i+1,wN i (by omega),by omega,?_⟩,by simp only; rw [wN i (by omega)]; omega⟩
        simp only
        rw [lA,hs,hxs,Nat.mul_succ]
        omega
      · rw [if_neg (df (show ¬ (i:Int)<len p.List by rw [lN]; omega))]
        have:i=p.List.length:=by omega
        subst this
        exact .inr ⟨_,rfl,hs⟩) F ([wu8 p.Kind]++[wu8 y],0) ⟨0,rfl,by omega,by simp⟩ (by simp only; omega)
    rw [g1,bs]
    exact⟨_,rfl,g2⟩
  unfold q6p
  split
  · rw [h0,bs]
    have hsh:∃b,q3q F p.List[0].fT=some b:=by
      unfold q3q
      rw [rnumber F hio.u,bs]
      exact⟨_,rfl⟩
    obtain⟨b,hb⟩:=hsh
    rw [hb,bs]
    split
    · exact hj _
    · exact hj _
  · exact hj _
theorem chk0 (F:Nat) {p:Tx3} {u:Txd} (hu:qb F p.Kind=some u) (h:qa F p=some 0):p.Value.length≤512∧u.Known=true∧(u.MTU=true→23≤p.MTU)∧(u.List=true→q11 F p=some 0)∧(u.Offset=true→0≤p.Offset∧p.Offset≤65535)∧(u.Handle=true→p.Kind≠1→p.Handle≠0):=by
  obtain⟨b,hb⟩:=runused F p
  unfold qa at h
  rw [hu,bs] at h
  by_cases c1:(!u.Known)=true
  · rw [if_pos c1] at h; injection h with h; exact absurd h (by decide)
  rw [if_neg c1,hb,bs] at h
  by_cases c2:(!b)=true
  · rw [if_pos c2] at h; injection h with h; exact absurd h (by decide)
  rw [if_neg c2] at h
  by_cases c3:(u.Asked&&((decide (p.Asked<0))||(decide (p.Asked > 255))))=true
  · rw [if_pos c3] at h; injection h with h; exact absurd h (by decide)
  rw [if_neg c3] at h
  by_cases c4:((u.Handle&&(p.Handle == 0))&&(p.Kind != 1))=true
  · rw [if_pos c4] at h; injection h with h; exact absurd h (by decide)
  rw [if_neg c4] at h
  by_cases c5:(u.Last&&(decide (p.Last<p.Handle)))=true
  · rw [if_pos c5] at h; injection h with h; exact absurd h (by decide)
  rw [if_neg c5] at h
  by_cases c6:(u.Offset&&((decide (p.Offset<0))||(decide (p.Offset > 65535))))=true
  · rw [if_pos c6] at h; injection h with h; exact absurd h (by decide)
  rw [if_neg c6] at h
  by_cases c7:(u.MTU&&((decide (p.MTU<23))||(decide (p.MTU > 517))))=true
  · rw [if_pos c7] at h; injection h with h; exact absurd h (by decide)
  rw [if_neg c7] at h
  by_cases c8:(u.Code&&((decide (p.Code<1))||(decide (p.Code > 255))))=true
  · rw [if_pos c8] at h; injection h with h; exact absurd h (by decide)
  rw [if_neg c8] at h
  by_cases c9:decide ((len p.Value) > 512)=true
  · rw [if_pos c9] at h; injection h with h; exact absurd h (by decide)
  rw [if_neg c9] at h
  have hv:=of_decide_eq_false ((Bool.not_eq_true _).mp c9)
  rw [lN] at hv
  refine ⟨by omega,by simpa using c1,?_,?_,?_,?_⟩
  · intro hm
    rw [hm,Bool.true_and] at c7
    simp only [Bool.or_eq_true,decide_eq_true_eq,not_or] at c7
    omega
  · intro hl
    rw [if_pos hl] at h
    obtain⟨e,he,h⟩:=Option.bind_eq_some_iff.1 h
    rw [he]
    exact h
  · intro hm
    rw [hm,Bool.true_and] at c6
    simp only [Bool.or_eq_true,decide_eq_true_eq,not_or] at c6
    omega
  · intro hm hk h0
    apply c4
    rw [hm,Bool.true_and,Bool.and_eq_true]
    exact⟨by simpa using h0,bne_iff_ne.2 hk⟩
theorem lst_ls (F:Nat) {p:Tx3} (hp:POk p) (h:q11 F p=some 0) (hF:p.List.length+1000000020<F):∃sz,Ls p.Kind p.List sz:=by
  have hpl:=hp.l
  unfold q11 at h
  by_cases h0:((len p.List) == 0)=true
  · rw [if_pos h0] at h; injection h with h; exact absurd h (by decide)
  rw [if_neg h0] at h
  have hne:0<p.List.length:=by
    by_cases e:p.List.length=0
    · exact absurd (by rw [lN,e]; rfl) h0
    · omega
  have i0:idx p.List 0=some p.List[0]:=(dN p.List 0).trans (gE hne)
  have hio:=hp.i _ (gM hne)
  obtain⟨o,g1,g2⟩:=iter_by (body:=fun s:Int=>qc F p s) (fun s=>∃i:Nat,s=(i:Int)∧i≤p.List.length∧∀j x,j<i→p.List[j]? = some x→(ib p.Kind x).length=(ib p.Kind p.List[0]).length) (fun o=>o = .inl ()→∀x∈p.List,(ib p.Kind x).length=(ib p.Kind p.List[0]).length) (fun s=>p.List.length - s.toNat) (by
    rintro s ⟨i,rfl,hi,hall⟩
    show (∃s',qc F p (i:Int)=some (.next s')∧_)∨∃o,qc F p (i:Int)=some (.done o)∧_
    unfold qc
    by_cases hin:i<p.List.length
    · rw [if_pos (dt (show (i:Int)<len p.List by rw [lN]; omega))]
      obtain⟨e,he⟩:=rcheckItem F p.Kind hp.i i hin hpl (by omega)
      rw [he,bs]
      by_cases he0:(e != 0)=true
      · rw [if_pos he0]
        exact .inr ⟨_,rfl,fun h=>by cases h⟩
      · rw [if_neg he0]
        refine .inl ⟨_,rfl,⟨i+1,wN i (by omega),by omega,?_⟩,by rw [wN i (by omega)]; omega⟩
        intro j x hj hx
        by_cases hji:j<i
        · exact hall j x hji hx
        · have:j=i:=by omega
          subst this
          have hxi:=hp.i x (List.mem_of_getElem? hx)
          have e0:e=0:=by simpa using he0
          subst e0
          unfold q1j at he
          rw [dN,hx,bs] at he
          obtain⟨z,hz,he⟩:=Option.bind_eq_some_iff.1 he
          split at he
          · injection he with he; exact absurd he (by decide)
          · split at he
            · injection he with he; exact absurd he (by decide)
            · have hj1:∀z,q1i F p.Kind p.List x z=some 0→(ib p.Kind x).length=(ib p.Kind p.List[0]).length:=by
                intro z h
                unfold q1i q4a at h
                split at h
                · injection h with h; exact absurd h (by decide)
                · rw [i0,bs,itb F _ hxi (by omega),bs,itb F _ hio (by omega),bs] at h
                  split at h
                  · injection h with h; exact absurd h (by decide)
                  · rename_i hq
                    have hq:len (ib p.Kind x)=len (ib p.Kind p.List[0]):=by simpa using hq
                    rw [lN,lN] at hq
                    omega
              split at he
              · obtain⟨y1,_,he⟩:=Option.bind_eq_some_iff.1 he
                obtain⟨y2,_,he⟩:=Option.bind_eq_some_iff.1 he
                exact hj1 _ he
              · exact hj1 _ he
    · rw [if_neg (df (show ¬ (i:Int)<len p.List by rw [lN]; omega))]
      refine .inr ⟨_,rfl,fun _ x hx=>?_⟩
      obtain⟨j,hj⟩:=List.getElem?_of_mem hx
      have:=(gS.1 hj).1
      exact hall j x (by omega) hj) F 0 ⟨0,rfl,by omega,by intro j x hj; omega⟩ (by simp; omega)
  rw [g1,bs] at h
  cases o with
  | inr e=>
    simp only at h
    exfalso
    obtain⟨o',k1,k2⟩:=iter_by (body:=fun s:Int=>qc F p s) (fun s=>∃i:Nat,s=(i:Int)∧i≤p.List.length) (fun o=>∀e,o = .inr e→e≠0) (fun s=>p.List.length - s.toNat) (by
      rintro s ⟨i,rfl,hi⟩
      show (∃s',qc F p (i:Int)=some (.next s')∧_)∨∃o,qc F p (i:Int)=some (.done o)∧_
      unfold qc
      by_cases hin:i<p.List.length
      · rw [if_pos (dt (show (i:Int)<len p.List by rw [lN]; omega))]
        obtain⟨e,he⟩:=rcheckItem F p.Kind hp.i i hin hpl (by omega)
        rw [he,bs]
        by_cases he0:(e != 0)=true
        · rw [if_pos he0]
          exact .inr ⟨_,rfl,fun e' h=>by injection h with h; rw [← h]; exact bne_iff_ne.1 he0⟩
        · rw [if_neg he0]
          exact .inl ⟨_,rfl,⟨i+1,wN i (by omega),by omega⟩,by rw [wN i (by omega)]; omega⟩
      · rw [if_neg (df (show ¬ (i:Int)<len p.List by rw [lN]; omega))]
        exact .inr ⟨_,rfl,fun e' h=>by cases h⟩) F 0 ⟨0,rfl,by omega⟩ (by simp; omega)
    rw [g1] at k1
    injection k1 with k1
    injection h with h
    exact k2 e k1.symm h
  | inl _=>
    simp only at h
    unfold q3p q4b at h
    rw [i0,bs,itb F _ hio (by omega),bs] at h
    split at h
    · injection h with h; exact absurd h (by decide)
    · rename_i hq
      simp only [Bool.or_eq_true,decide_eq_true_eq,not_or] at hq
      obtain⟨q1,q2⟩:=hq
      have hs:=g2 rfl
      generalize (ib p.Kind p.List[0]).length=sz at hs
      generalize hlb:len (ib p.Kind p.List[0])=lb at q1 q2
      have hlb2:lb=(sz:Int):=by rw [← hlb,lN,hs _ (gM hne)]
      rw [hlb2] at q1 q2
      have hm:sz * p.List.length≤255 * p.List.length:=Nat.mul_le_mul_right _ (by omega)
      rw [lN,← Int.natCast_mul] at q2
      generalize hmm:sz * p.List.length=mm at hm q2
      rw [show w64 (mm:Int)=mm from w64_id (by omega) (by omega),w64_id (by omega) (by omega)] at q2
      exact⟨sz,hne,hs,by omega,by omega⟩
theorem enc_some (F:Nat) {p:Tx3} (hp:POk p) (hF:p.List.length+1000000020<F):(∃e,e≠0∧qq F p=some ([],e))∨(qa F p=some 0∧∃c u,qq F p=some (c,0)∧qb F p.Kind=some u∧(u.List=false→c.length=r1 u p)):=by
  obtain⟨e,he⟩:=rcheckPDU F hp (by omega)
  obtain⟨u,hu⟩:=fld0 F p.Kind
  by_cases he0:e=0
  · subst he0
    right
    obtain⟨h1,_,_,h4,_⟩:=chk0 F hu he
    refine ⟨he,?_⟩
    cases hl:u.List with
    | false=>
      obtain⟨c,k1,k2⟩:=enc_plain F he hu hl hp.u h1 (by omega)
      exact⟨c,u,k1,hu,fun _=>k2⟩
    | true=>
      obtain⟨sz,hs⟩:=lst_ls F hp (h4 hl) hF
      obtain⟨c,k1,k2⟩:=lst_enc F he hu hl hp.i hs (by omega)
      exact⟨c,u,k1,hu,fun h=>by rw [hl] at h; cases h⟩
  · left
    refine ⟨e,he0,?_⟩
    unfold qq
    rw [he,bs,if_pos (bne_iff_ne.2 he0)]
end V
end Go.Proofs.YtoahakdkgefgiaaGreat

namespace Go.Proofs.YtoahakdkgefgiaaGreat
namespace V
theorem copied_ok (F:Nat) {a:Tx1} (h:a.Value.length≤8192) (hF:1<F):q3e F a=some a:=by
  unfold q3e
  rw [join_one F _ hF (by omega)]
  rfl
def inr (f l:Int) (a:Tx1):Bool:=decide (a.Handle≥f)&&decide (a.Handle≤l)
theorem filter_take {α:Type} (l:List α) (p:α→Bool) (i:Nat) {x:α} (hx:l[i]? = some x):(l.take (i+1)).filter p=(l.take i).filter p++(if p x=true then [x] else []):=by
  rw [List.take_add_one,hx,List.filter_append]
  simp only [Option.toList_some,List.filter_cons,List.filter_nil]
theorem urange (F:Nat) (db:List Tx1) (f l:Int) (hn:db.length≤1100) (hv:∀a∈db,a.Value.length≤8192) (hF:db.length+5<F):q3f F db f l=some (db.filter (inr f l)):=by
  unfold q3f
  have:=iter_count (body:=fun s:List Tx1×Int=>q28 F db f l s.1 s.2) (fun i=>((db.take i).filter (inr f l),(i:Int))) db.length (db.filter (inr f l)) (by
    intro i hi
    have hx:db[i]? = some db[i]:=gE hi
    have ha:=hv _ (gM hi)
    generalize db[i]=a at hx ha
    have hlen:((db.take i).filter (inr f l)).length≤i:=Nat.le_trans (List.length_filter_le ..) (by simp; omega)
    show q28 F db f l _ (i:Int)=_
    unfold q28
    rw [if_pos (dt (by rw [lN]; omega)),dN,hx,bs,copied_ok F ha (by omega),bs,app_small (by simp only [List.length_cons,List.length_nil]; omega) (by decide),bs,filter_take db _ i hx]
    unfold q4x
    rw [wN i (by omega)]
    by_cases hp:inr f l a=true
    · rw [if_pos hp,if_pos (show (decide (a.Handle≥f)&&decide (a.Handle≤l))=true from hp)]
    · rw [if_neg hp,if_neg (show ¬ (decide (a.Handle≥f)&&decide (a.Handle≤l))=true from hp),List.append_nil]) (by
    show q28 F db f l _ _=_
    unfold q28
    rw [if_neg (df (by rw [lN]; omega)),List.take_length]) F 0 (by omega) (by omega)
  have h0:((List.filter (inr f l) (List.take 0 db),((0:Nat):Int)):List Tx1×Int)=([],0):=by simp
  rw [h0] at this
  rw [this]
  rfl
def run (l:List Tx1):Nat:=(l.takeWhile fun a=>!isv a.fT).length
theorem run_lt:∀{l:List Tx1} {j:Nat},j<run l→∃a,l[j]? = some a∧isv a.fT=false
  | [],_,h=>by simp [run] at h
  | a::l,j,h=>by
    unfold run at h
    rw [List.takeWhile_cons] at h
    by_cases hp:isv a.fT=true
    · simp [hp] at h
    · have hp:=(Bool.not_eq_true _).mp hp
      simp only [hp,Bool.not_false,if_true,List.length_cons] at h
      cases j with
      | zero=>exact⟨a,rfl,hp⟩
      | succ j=>exact run_lt (l:=l) (j:=j) (by unfold run; omega)
theorem run_at:∀{l:List Tx1} {a:Tx1},l[run l]? = some a→isv a.fT=true
  | [],_,h=>by simp at h
  | b::l,a,h=>by
    unfold run at h
    rw [List.takeWhile_cons] at h
    by_cases hp:isv b.fT=true
    · simp [hp] at h
      subst h
      exact hp
    · have hp:=(Bool.not_eq_true _).mp hp
      simp only [hp,Bool.not_false,if_true,List.length_cons,List.getElem?_cons_succ] at h
      exact run_at (l:=l) h
theorem run_le (l:List Tx1):run l≤l.length:=(List.takeWhile_sublist _).length_le
def hnd (db:List Tx1) (i:Nat):Int:=match db[i]? with
  | some a=>a.Handle
  | none=>0
def lst (db:List Tx1) (k:Nat):Nat:=k+run (db.drop (k+1))
def grp (db:List Tx1) (h:Int):Int×Bool:=match db.findIdx? (fun a=>a.Handle == h) with
  | none=>(0,false)
  | some k=>match db[k]? with
    | none=>(0,false)
    | some a=>if isv a.fT=true then (hnd db (lst db k),true) else (0,false)
theorem lst_lt {db:List Tx1} {k:Nat} (h:k<db.length):lst db k<db.length:=by
  have:=run_le (db.drop (k+1))
  rw [List.length_drop] at this
  unfold lst
  omega
theorem find_some {db:List Tx1} {h:Int} {k:Nat} (hk:db.findIdx? (fun a=>a.Handle == h)=some k):∃a,db[k]? = some a∧a.Handle=h:=by
  obtain⟨h1,h2,_⟩:=List.findIdx?_eq_some_iff_getElem.1 hk
  exact⟨db[k],gE h1,by simpa using h2⟩
theorem ugroup (F:Nat) (db:List Tx1) (hdb:∀a∈db,AOk a) (h:Int) (hn:db.length≤9000000000000000) (hF:db.length+20<F):q2q F db h=some (grp db h):=by
  unfold q2q grp
  rw [ufind F db h hn (by omega),bs]
  unfold fnd
  cases hk:db.findIdx? (fun a=>a.Handle == h) with
  | none=>rfl
  | some k=>
    obtain⟨a,hx,hh⟩:=find_some hk
    have hkl:=(gS.1 hx).1
    have ha:=hdb a (List.mem_of_getElem? hx)
    simp only
    rw [if_neg (df (show ¬ (k:Int)<0 by omega)),dN,hx,bs,service_ok F ha.u (by omega),bs,bs]
    by_cases hs:isv a.fT=true
    · rw [hs,if_neg (by decide)]
      show _=some (if isv a.fT=true then (hnd db (lst db k),true) else ((0,false):Int×Bool))
      rw [if_pos hs]
      have:=iter_count (body:=fun s:Int=>q29 F db s) (fun j=>((k+j:Nat):Int)) (run (db.drop (k+1))) ((lst db k:Nat):Int) (by
        intro j hj
        obtain⟨b,hb,hbs⟩:=run_lt hj
        rw [List.getElem?_drop] at hb
        have hbl:=(gS.1 hb).1
        have hbo:=hdb b (List.mem_of_getElem? hb)
        show q29 F db ((k+j:Nat):Int)=_
        unfold q29
        have hw:w64 (((k+j:Nat):Int)+1)=((k+1+j:Nat):Int):=by rw [wN _ (by omega)]; omega
        rw [hw,if_pos (dt (by rw [lN]; omega)),dN,hb,bs,service_ok F hbo.u (by omega),bs,bs,hbs,if_pos (by decide),show k+1+j=k+(j+1) from by omega]) (by
        show q29 F db ((k+run (db.drop (k+1)):Nat):Int)=_
        have hll:=lst_lt hkl
        unfold lst at hll ⊢
        unfold q29
        have hw:w64 (((k+run (db.drop (k+1)):Nat):Int)+1)=((k+1+run (db.drop (k+1)):Nat):Int):=by rw [wN _ (by omega)]; omega
        rw [hw]
        by_cases he:k+1+run (db.drop (k+1))<db.length
        · have hb:db[k+1+run (db.drop (k+1))]? = some db[k+1+run (db.drop (k+1))]:=gE he
          have hbo:=hdb _ (gM he)
          generalize db[k+1+run (db.drop (k+1))]=b at hb hbo
          have hbs:isv b.fT=true:=run_at (l:=db.drop (k+1)) (by rw [List.getElem?_drop]; exact hb)
          rw [if_pos (dt (by rw [lN]; omega)),dN,hb,bs,service_ok F hbo.u (by omega),bs,bs,hbs,if_neg (by decide)]
        · rw [if_neg (df (by rw [lN]; omega)),bs,if_neg (by decide)]) F 0 (by omega) (by have:=run_le (db.drop (k+1)); rw [List.length_drop] at this; omega)
      rw [show ((k+0:Nat):Int)=(k:Int) from rfl] at this
      rw [this,bs]
      unfold q6e hnd
      rw [dN,gE (lst_lt hkl)]
      rfl
    · rw [(Bool.not_eq_true _).mp hs,if_pos (by decide)]
      show _=some (if isv a.fT=true then (hnd db (lst db k),true) else ((0,false):Int×Bool))
      rw [if_neg hs]
end V
end Go.Proofs.YtoahakdkgefgiaaGreat

namespace Go.Proofs.YtoahakdkgefgiaaGreat
namespace V
def AnsOk (F:Nat) (a:Tx3) (m:Int):Prop:=∃c,qq F a=some (c,0)∧(c.length:Int)≤m
def PD (k h o m:Int) (v:List Int):Tx3:=Tx3.mk k 0 h 0 (Tx0.mk 0 0) o m 0 false v []
def Er (p a:Tx3):Prop:=∃h c,a=Tx3.mk 1 p.Kind h 0 (Tx0.mk 0 0) 0 0 c false [] []∧1≤c∧c≤255
theorem uz_ok:UOk (Tx0.mk 0 0):=⟨by decide,by decide,by decide,by decide⟩
theorem er_ok (F:Nat) {p a:Tx3} (h:Er p a) (k0:0≤p.Kind) (k1:p.Kind≤255) {m:Int} (hm:23≤m) (hF:30<F):AnsOk F a m:=by
  obtain⟨hd,c,rfl,c0,c1⟩:=h
  have hu:qb F 1=some (Txd.mk true true true false false false false true false false false):=rfl
  have hc:qa F (Tx3.mk 1 p.Kind hd 0 (Tx0.mk 0 0) 0 0 c false [] [])=some 0:=by
    unfold qa qy
    simp only [hu,bs]
    have a1:¬ p.Kind<0:=by omega
    have a2:¬ 255<p.Kind:=by omega
    have a3:¬ c<1:=by omega
    have a4:¬ 255<c:=by omega
    simp [len,a1,a2,a3,a4]
  obtain⟨q,q1,q2⟩:=enc_plain F hc hu rfl uz_ok (by simp) hF
  exact⟨q,q1,by rw [q2]; simp [r1,r2,r3,r4,r5,r6,r7,r8,r9,b2]; omega⟩
theorem val_ans (F:Nat) {k:Int} (hk:k=11∨k=13) {v:List Int} (hv:v.length≤512) {m:Int} (hm:23≤m) (hl:(v.length:Int)+1≤m) (hF:30<F):AnsOk F (PD k 0 0 0 v) m:=by
  have hu:qb F k=some (Txd.mk true false false false false false false false false true false):=by
    rcases hk with rfl | rfl <;> rfl
  have hc:qa F (PD k 0 0 0 v)=some 0:=by
    unfold qa qy PD
    simp only [hu,bs]
    simp [len]
    omega
  obtain⟨q,q1,q2⟩:=enc_plain F hc hu rfl uz_ok hv hF
  exact⟨q,q1,by rw [q2]; simp [r1,r2,r3,r4,r5,r6,r7,r8,r9,b2,PD]; omega⟩
theorem don_ans (F:Nat) {k:Int} (hk:k=19∨k=25) {m:Int} (hm:23≤m) (hF:30<F):AnsOk F (PD k 0 0 0 []) m:=by
  have hu:qb F k=some (Txd.mk true false false false false false false false false false false):=by
    rcases hk with rfl | rfl <;> rfl
  have hc:qa F (PD k 0 0 0 [])=some 0:=by
    unfold qa qy PD
    simp only [hu,bs]
    simp [len]
  obtain⟨q,q1,q2⟩:=enc_plain F hc hu rfl uz_ok (by simp [PD]) hF
  exact⟨q,q1,by rw [q2]; simp [r1,r2,r3,r4,r5,r6,r7,r8,r9,b2,PD]; omega⟩
theorem mtu_ans (F:Nat) {x m:Int} (h0:23≤x) (h1:x≤517) (hm:23≤m) (hF:30<F):AnsOk F (PD 3 0 0 x []) m:=by
  have hu:qb F 3=some (Txd.mk true false false false false false true false false false false):=rfl
  have hc:qa F (PD 3 0 0 x [])=some 0:=by
    unfold qa qy PD
    simp only [hu,bs]
    simp [len]
    omega
  obtain⟨q,q1,q2⟩:=enc_plain F hc hu rfl uz_ok (by simp [PD]) hF
  exact⟨q,q1,by rw [q2]; simp [r1,r2,r3,r4,r5,r6,r7,r8,r9,b2,PD]; omega⟩
theorem pre_ans (F:Nat) {h o:Int} (hh:h≠0) (o0:0≤o) (o1:o≤65535) {v:List Int} (hv:v.length≤512) {m:Int} (hl:(v.length:Int)+5≤m) (hF:30<F):AnsOk F (PD 23 h o 0 v) m:=by
  have hu:qb F 23=some (Txd.mk true false true false false true false false false true false):=rfl
  have hc:qa F (PD 23 h o 0 v)=some 0:=by
    unfold qa qy PD
    simp only [hu,bs]
    have a1:¬ o<0:=by omega
    have a2:¬ 65535<o:=by omega
    have a3:¬ 512<(v.length:Int):=by omega
    have a4:¬ 512<v.length:=by omega
    simp [len,hh,a1,a2,a3,a4]
  obtain⟨q,q1,q2⟩:=enc_plain F hc hu rfl uz_ok hv hF
  exact⟨q,q1,by rw [q2]; simp [r1,r2,r3,r4,r5,r6,r7,r8,r9,b2,PD]; omega⟩
def Fd (k:Int) (x:Tx2):Prop:=(k=5→x.Value=[])∧(k≠5→x.fT=Tx0.mk 0 0)∧(k≠17→x.Last=0)∧(k=17→x.Handle≤x.Last)
structure Lb (k m:Int) (c:Txc) (b:Int):Prop where
  ok:∀x∈c.items,IOk x∧0<x.Handle∧Fd k x∧x.Handle≤b∧x.Last≤b
  ord:∀(i:Nat) x y,c.items[i]? = some x→c.items[i+1]? = some y→imax x.Handle x.Last<y.Handle
  sz:∃s:Nat,(∀x∈c.items,(ib k x).length=s)∧c.room=m - 2 - ((s * c.items.length:Nat):Int)∧s≤255∧0≤c.room
theorem lb_nil (k:Int) {m:Int} (h:23≤m):Lb k m (Txc.mk [] (m - 2)) 0:=⟨(fun x hx=>by cases hx),(fun i x y hx=>by simp at hx),0,(fun x hx=>by cases hx),by simp,by omega,by show 0≤m - 2; omega⟩
theorem ib_pos {k:Int} {x:Tx2}:2≤(ib k x).length:=by
  unfold ib
  split
  · rw [lA,lL]; omega
  · split
    · rw [lA,lA,lL]; omega
    · rw [lA,lL]; omega
theorem lb_len {k m:Int} {c:Txc} {b:Int} (h:Lb k m c b) (hm:m≤517):c.items.length≤517:=by
  obtain⟨s,s1,s2,s3,s4⟩:=h.sz
  by_cases hn:c.items.length=0
  · omega
  · have hx:=s1 _ (gM (show 0<c.items.length by omega))
    have hp:=ib_pos (k:=k) (x:=c.items[0])
    have:1 * c.items.length≤s * c.items.length:=Nat.mul_le_mul_right _ (by omega)
    omega
theorem add_ok (F:Nat) {k m:Int} {c:Txc} {b:Int} (h:Lb k m c b) (hm:m≤517) {x:Tx2} (hx:IOk x) (hx0:0<x.Handle) (hf:Fd k x) (hb:b<x.Handle) {z:Int} (hz:z=((ib k x).length:Int)) (hz2:(ib k x).length≤255) (h0:∀y,c.items[0]? = some y→(ib k y).length=(ib k x).length) :
    ∃r,qp F c x z=some r∧(r.1=true→Lb k m r.2 (imax x.Handle x.Last)∧r.2.items=c.items++[x])∧(r.1=false→r.2=c):=by
  have hlen:=lb_len h hm
  obtain⟨s,s1,s2,s3,s4⟩:=h.sz
  unfold qp q67
  by_cases hq:z > c.room
  · rw [if_pos (dt hq)]
    exact⟨_,rfl,(fun h=>by cases h),fun _=>rfl⟩
  · rw [if_neg (df hq),app_k (by decide) (by simp; omega),bs]
    refine ⟨_,rfl,fun _=>⟨?_,rfl⟩,(fun h=>by cases h)⟩
    have hle:x.Handle≤imax x.Handle x.Last∧x.Last≤imax x.Handle x.Last:=by unfold imax; split <;> omega
    refine ⟨?_,?_,(ib k x).length,?_,?_,hz2,?_⟩
    · intro y hy
      rcases List.mem_append.1 hy with hy | hy
      · obtain⟨y1,y2,y3,y4,y5⟩:=h.ok y hy
        exact⟨y1,y2,y3,by omega,by omega⟩
      · simp at hy
        subst hy
        exact⟨hx,hx0,hf,hle.1,hle.2⟩
    · intro i y w hy hw
      simp only at hy hw
      by_cases hi:i+1<c.items.length
      · rw [List.getElem?_append_left (by omega)] at hy hw
        exact h.ord i y w hy hw
      · have hwl:=(gS.1 hw).1
        simp at hwl
        have hi2:i+1=c.items.length:=by omega
        rw [List.getElem?_append_left (by omega)] at hy
        rw [List.getElem?_append_right (by omega),hi2,Nat.sub_self] at hw
        simp at hw
        subst hw
        obtain⟨_,_,_,y4,y5⟩:=h.ok y (List.mem_of_getElem? hy)
        unfold imax
        split <;> omega
    · intro y hy
      rcases List.mem_append.1 hy with hy | hy
      · have hne:0<c.items.length:=List.length_pos_of_mem hy
        have e:=h0 _ (gE hne)
        rw [s1 _ (gM hne)] at e
        rw [s1 y hy,e]
      · simp at hy
        rw [hy]
    · simp only
      have hs:((ib k x).length * (c.items++[x]).length:Nat)=s * c.items.length+(ib k x).length:=by
        rw [lA,List.length_singleton,Nat.mul_add,Nat.mul_one]
        by_cases hn:c.items.length=0
        · rw [hn]; simp
        · have e:=h0 _ (gE (show 0<c.items.length by omega))
          rw [s1 _ (gM (show 0<c.items.length by omega))] at e
          rw [e]
      rw [hs]
      generalize s * c.items.length=q at s2
      rw [w64_id (by omega) (by omega)]
      omega
    · simp only
      rw [w64_id (by omega) (by omega)]
      omega
theorem chk_item (F:Nat) {k m:Int} {c:Txc} {b:Int} (h:Lb k m c b) (i:Nat) (hi:i<c.items.length) (hl:c.items.length≤517) (hF:30<F):q1j F k c.items i=some 0:=by
  have hx:c.items[i]? = some c.items[i]:=gE hi
  have hok:=h.ok _ (gM hi)
  obtain⟨s,s1,s2,s3,s4⟩:=h.sz
  have hxs:=s1 _ (gM hi)
  generalize c.items[i]=x at hx hok hxs
  have h0:idx c.items 0=some c.items[0]:=(dN c.items 0).trans (gE (by omega))
  have hok0:=h.ok _ (gM (show 0<c.items.length by omega))
  have hs0:=s1 _ (gM (show 0<c.items.length by omega))
  generalize c.items[0]=y at h0 hok0 hs0
  obtain⟨x1,x2,⟨f1,f2,f3,f4⟩,_,_⟩:=hok
  have hj:∀z,z=false→q1i F k c.items x z=some 0:=by
    intro z hz
    subst hz
    unfold q1i q4a
    rw [if_neg (by decide),h0,bs,itb F k x1 hF,bs,itb F k hok0.1 hF,bs,lN,lN,hxs,hs0,if_neg (by simp)]
  have h17:((k == 17)&&(decide (x.Last<x.Handle)))=false:=by
    by_cases hk:k=17
    · have:=f4 hk
      rw [show decide (x.Last<x.Handle)=false from decide_eq_false (by omega),Bool.and_false]
    · rw [beq_false_of_ne hk,Bool.false_and]
  unfold q1j
  rw [dN,hx,bs]
  have hz:(if (!(k == 5))=true then some ((!((x.fT.High == 0)&&(x.fT.Low == 0)))) else some (false))=some false:=by
    by_cases hk:k=5
    · rw [hk]; rfl
    · rw [if_pos (by simpa using hk),f2 hk]; rfl
  rw [hz,bs]
  rw [if_neg (by
    rw [Bool.or_eq_true,Bool.or_eq_true,not_or,not_or]
    refine ⟨⟨by decide,?_⟩,?_⟩
    · rw [Bool.and_eq_true]
      rintro⟨q1,q2⟩
      have:=of_decide_eq_true q2
      rw [f1 (by simpa using q1)] at this
      exact absurd this (by decide)
    · rw [Bool.and_eq_true]
      rintro⟨q1,q2⟩
      have e:=f3 (by simpa using q1)
      rw [e] at q2
      exact absurd q2 (by decide)),if_neg (show ¬ (x.Handle == 0)=true by simp; omega)]
  by_cases hi0:(i:Int) > 0
  · have hp:c.items[i - 1]? = some c.items[i - 1]:=gE (by omega)
    have ho:=h.ord (i - 1) _ x hp (by rw [show i - 1+1=i from by omega]; exact hx)
    generalize c.items[i - 1]=w at hp ho
    rw [if_pos (dt hi0),w64_id (by omega) (by omega),show (i:Int) - 1=((i - 1:Nat):Int) from by omega,dN,hp,bs,bs]
    apply hj
    rw [h17,Bool.or_false]
    exact decide_eq_false (by omega)
  · rw [if_neg (df hi0)]
    apply hj
    rw [h17]; rfl
theorem lst_ans (F:Nat) {k m:Int} (hk:k=5∨k=9∨k=17) {c:Txc} {b:Int} (h:Lb k m c b) (hne:¬ ((len c.items) == 0)=true) (hm0:23≤m) (hm:m≤517) (hF:1000000020<F):AnsOk F (Tx3.mk k 0 0 0 (Tx0.mk 0 0) 0 0 0 false [] c.items) m:=by
  have hlen:=lb_len h hm
  have hpos:0<c.items.length:=by
    by_cases e:c.items.length=0
    · exact absurd (by rw [lN,e]; rfl) hne
    · omega
  obtain⟨s,s1,s2,s3,s4⟩:=h.sz
  obtain⟨u,hu,hul⟩:∃u,qb F k=some u∧u=Txd.mk true false false false false false false false false false true:=by
    rcases hk with rfl | rfl | rfl
    · exact⟨_,rfl,rfl⟩
    · exact⟨_,rfl,rfl⟩
    · exact⟨_,rfl,rfl⟩
  obtain⟨p,hp⟩:∃p,p=Tx3.mk k 0 0 0 (Tx0.mk 0 0) 0 0 0 false [] c.items:=⟨_,rfl⟩
  have hcl:q11 F p=some 0:=by
    unfold q11
    have i0:idx c.items 0=some c.items[0]:=(dN c.items 0).trans (gE hpos)
    have g1:=iter_count (body:=fun t:Int=>qc F p t) (fun i=>(i:Int)) c.items.length (.inl ()) (by
      intro i hi
      show qc F p (i:Int)=_
      unfold qc
      rw [hp]
      simp only
      rw [if_pos (dt (by rw [lN]; omega)),chk_item F h i hi hlen (by omega),bs,if_neg (by decide),wN i (by omega)]) (by
      show qc F p (c.items.length:Int)=_
      unfold qc
      rw [hp]
      simp only
      rw [if_neg (df (by rw [lN]; omega))]) F 0 (by omega) (by omega)
    rw [show ((0:Nat):Int)=0 from rfl] at g1
    rw [g1,hp]
    simp only
    rw [if_neg hne,bs]
    show q3p F _=_
    unfold q3p q4b
    simp only
    rw [i0,bs,itb F k (h.ok _ (gM hpos)).1 (by omega),bs,lN,s1 _ (gM hpos),lN,← Int.natCast_mul]
    have hmm:s * c.items.length≤255 * c.items.length:=Nat.mul_le_mul_right _ s3
    generalize s * c.items.length=q at s2 hmm
    rw [show w64 (q:Int)=q from w64_id (by omega) (by omega),w64_id (by omega) (by omega),if_neg (by
      rw [Bool.or_eq_true,not_or]
      exact⟨df (by omega),df (by omega)⟩)]
  have hc:qa F p=some 0:=by
    unfold qa qy
    rw [hcl]
    rw [hp]
    simp only [hu,hul,bs]
    simp [len]
  have hls:Ls p.Kind p.List s:=by
    rw [hp]
    refine ⟨hpos,s1,s3,?_⟩
    show 2+s * c.items.length≤517
    omega
  obtain⟨q,q1,q2⟩:=lst_enc F (p:=p) (u:=u) hc (by rw [hp]; exact hu) (by rw [hul]) (by rw [hp]; exact fun x hx=>(h.ok x hx).1) hls hF
  rw [hp] at q1 q2
  refine ⟨q,q1,?_⟩
  rw [q2]
  show ((2+s * c.items.length:Nat):Int)≤m
  omega
end V
end Go.Proofs.YtoahakdkgefgiaaGreat

namespace Go.Proofs.YtoahakdkgefgiaaGreat
namespace V
def hs (db:List Tx1):List Int:=db.map (·.Handle)
def Sv (db:List Tx1):Prop:=∀a∈db,isv a.fT=true→a.Value.length≤16∧(iand .i64 a.Perms 2 == 0)=true
def Qs (db:List Tx1) (q:List Tx7):Prop:=∀x∈q,∀a∈db,a.Handle=x.Handle→isv a.fT=false
structure Iv (s:Tx8) (n:Nat):Prop where
  i:Inv s n
  p:(hs s.DB).Pairwise (· < ·)
  z:∀h∈hs s.DB,0<h
  m0:23≤s.MTU
  m1:s.MTU≤517
  x0:23≤s.Max
  x1:s.Max≤517
  r:s.Robust=false
  sv:Sv s.DB
  qs:Qs s.DB s.Queue
structure Kp (s t:Tx8) (n:Nat):Prop where
  i:Inv t (n+1)
  h:hs t.DB=hs s.DB
  m:t.MTU=s.MTU
  x:t.Max=s.Max
  r:t.Robust=s.Robust
  sv:Sv t.DB
  qs:Qs t.DB t.Queue
theorem Iv.kp {s:Tx8} {n:Nat} (h:Iv s n):Kp s s n:=⟨h.i.up (by omega),rfl,rfl,rfl,rfl,h.sv,h.qs⟩
theorem Kp.iv {s t:Tx8} {n:Nat} (h:Iv s n) (k:Kp s t n):Iv t (n+1):=⟨k.i,by rw [k.h]; exact h.p,by rw [k.h]; exact h.z,by rw [k.m]; exact h.m0,by rw [k.m]; exact h.m1,by rw [k.x]; exact h.x0,by rw [k.x]; exact h.x1,by rw [k.r]; exact h.r,k.sv,k.qs⟩
theorem pw_at {db:List Tx1} (h:(hs db).Pairwise (· < ·)) {i j:Nat} {a b:Tx1} (ha:db[i]? = some a) (hb:db[j]? = some b) (hij:i<j):a.Handle<b.Handle:=by
  obtain⟨h1,h2⟩:=gS.1 ha
  obtain⟨h3,h4⟩:=gS.1 hb
  have:=List.pairwise_iff_getElem.1 h i j (by simp [hs]; omega) (by simp [hs]; omega) hij
  simp only [hs,List.getElem_map,h2,h4] at this
  exact this
theorem pos_at {db:List Tx1} (h:∀x∈hs db,0<x) {a:Tx1} (ha:a∈db):0<a.Handle:=h _ (List.mem_map.2 ⟨a,ha,rfl⟩)
theorem hs_set {db:List Tx1} {k:Nat} {a:Tx1} (h:db[k]? = some a) (v:List Int):hs (db.set k { a with Value:=v })=hs db:=by
  unfold hs
  rw [List.map_set]
  apply List.ext_getElem?
  intro i
  by_cases hi:k=i
  · subst hi
    have hl:=(gS.1 h).1
    rw [List.getElem?_set_self (by rw [List.length_map]; exact hl),List.getElem?_map,h]
    rfl
  · rw [List.getElem?_set_ne hi]
theorem sv_set {db:List Tx1} (h:Sv db) {k:Nat} {a:Tx1} (hn:isv a.fT=false) (v:List Int):Sv (db.set k { a with Value:=v }):=by
  intro b hb hi
  rcases List.mem_or_eq_of_mem_set hb with hb | rfl
  · exact h b hb hi
  · have hi:isv a.fT=true:=hi
    rw [hn] at hi; cases hi
theorem qs_set {db:List Tx1} {q:List Tx7} (h:Qs db q) {k:Nat} {a:Tx1} (hn:isv a.fT=false) (v:List Int):Qs (db.set k { a with Value:=v }) q:=by
  intro x hx b hb hh
  rcases List.mem_or_eq_of_mem_set hb with hb | rfl
  · exact h x hx b hb hh
  · exact hn
theorem acc_rng (F:Nat) (x:Txa) (a:Tx1) (p c:Int) (h0:1≤c) (h1:c≤255):∃r,q1z F x a p c=some r∧0≤r∧r≤255∧(r=0→(iand .i64 a.Perms p == 0)=false):=by
  unfold q1z
  by_cases hq:((iand .i64 a.Perms p) == 0)=true
  · rw [if_pos hq]
    exact⟨_,rfl,by omega,h1,by omega⟩
  · rw [if_neg hq]
    have hq:=(Bool.not_eq_true _).mp hq
    repeat' split
    · exact⟨_,rfl,by decide,by decide,fun _=>hq⟩
    · exact⟨_,rfl,by decide,by decide,fun _=>hq⟩
    · exact⟨_,rfl,by decide,by decide,fun _=>hq⟩
theorem wri2 (F:Nat) (x:Txa) (h:Int) (hn:x.Server.DB.length≤80) (hF:1000000020<F):∃i c,q20 F x h=some (i,c,x)∧0≤c∧c≤255∧(c=0→∃(k:Nat) (a:Tx1),i=(k:Int)∧x.Server.DB[k]? = some a∧a.Handle=h∧(iand .i64 a.Perms 2 == 0)=false):=by
  unfold q20
  rw [ufind F _ h (by omega) (by omega),bs]
  rcases fnd_cases x.Server.DB h with q | ⟨k,q,hk⟩
  · rw [q,if_pos (by decide)]
    exact⟨_,_,rfl,by decide,by decide,fun h=>absurd h (by decide)⟩
  · obtain⟨b,hb,hb2⟩:=fnd_some q
    rw [q,if_neg (df (by omega)),dN,hb,bs]
    obtain⟨r,hr,r0,r1,r2⟩:=acc_rng F x b 2 3 (by decide) (by decide)
    rw [hr,bs]
    exact⟨_,_,rfl,r0,r1,fun hc=>⟨k,b,rfl,hb,hb2,r2 hc⟩⟩
theorem er_mk (F:Nat) (p:Tx3) (h c:Int) (c0:1≤c) (c1:c≤255):∃a,q7 F p h c=some a∧Er p a:=⟨_,rfl,h,c,rfl,c0,c1⟩
theorem not_svc {db:List Tx1} (h:Sv db) {a:Tx1} (ha:a∈db) (hw:(iand .i64 a.Perms 2 == 0)=false):isv a.fT=false:=by
  cases hv:isv a.fT with
  | false=>rfl
  | true=>have:=(h a ha hv).2; rw [hw] at this; cases this
theorem f_write (F:Nat) {x:Txa} {n:Nat} (hI:Iv x.Server n) (hn:n≤900) {p:Tx3} (hp:POk p) (hv:p.Value.length≤512) (hF:1000000020<F):∃r,q16 F x p=some r∧Kp x.Server r.2.Server n∧(Er p r.1∨r.1=PD 19 0 0 0 []):=by
  have h:=hI.i
  have hd:=h.d
  have hsb:=h.sb
  obtain⟨i,c,h1,c0,c1,h2⟩:=wri2 F x p.Handle hd hF
  unfold q16
  rw [h1,bs]
  by_cases hc:c=0
  · subst hc
    obtain⟨k,a,rfl,hx,_,hw⟩:=h2 rfl
    have hk:=(gS.1 hx).1
    have ham:=List.mem_of_getElem? hx
    have hak:=h.a _ ham
    have hnv:=not_svc hI.sv ham hw
    rw [if_neg (show ¬ ((0:Int) != 0)=true by decide)]
    simp only
    rw [dN,hx]
    simp only [bs]
    rw [sis F _ _ (by decide) (by decide)]
    simp only [bs]
    by_cases hq:(isN a.fT 10498&&len p.Value != 2)=true
    · rw [if_pos hq]
      obtain⟨e,e1,e2⟩:=er_mk F p p.Handle 13 (by decide) (by decide)
      rw [e1,bs]
      exact⟨_,rfl,hI.kp,.inl e2⟩
    · rw [if_neg hq]
      cases hc:isN a.fT 10498 with
      | true=>
        rw [hc,Bool.true_and] at hq
        have hl:len p.Value=2:=by simpa using hq
        rw [lN] at hl
        rw [if_pos rfl]
        obtain⟨r,hr⟩:=own_some F x.Server.DB k hk (by omega) (by omega)
        rw [hr,bs]
        split
        · match hpv:p.Value,hl with
          | [b0,b1],_=>
            rw [show idx [b0,b1] 0=some b0 from rfl,show idx [b0,b1] 1=some b1 from rfl,bs,bs,ubits,bs]
            obtain⟨l,g1,g2⟩:=sbc_some F x r.2.1 (iand .i64 (ior .i64 (w64 b0) (shlp .i64 (w64 b1) 8)) (bt r.1)) (by omega) hF
            rw [g1,bs]
            exact⟨_,rfl,⟨⟨hd,h.a,(show l.length≤n+1 by omega),h.q,h.qv,h.o,h.ov⟩,rfl,rfl,rfl,rfl,hI.sv,hI.qs⟩,.inr rfl⟩
          | [],h=>exact absurd h (by simp)
          | [_],h=>exact absurd h (by simp)
          | _::_::_::_,h=>exact absurd h (by simp; omega)
        · exact⟨_,rfl,⟨⟨hd,h.a,(show x.Server.Subs.length≤n+1 by omega),h.q,h.qv,h.o,h.ov⟩,rfl,rfl,rfl,rfl,hI.sv,hI.qs⟩,.inr rfl⟩
      | false=>
        rw [if_neg (by decide),join_one F _ (by omega) (by omega)]
        simp only [bs]
        unfold upd
        rw [if_pos ⟨by omega,by omega⟩,bs]
        refine ⟨_,rfl,⟨⟨?_,?_,(show x.Server.Subs.length≤n+1 by omega),h.q,h.qv,h.o,h.ov⟩,?_,rfl,rfl,rfl,?_,?_⟩,.inr rfl⟩
        · show (x.Server.DB.set _ _).length≤80
          rw [List.length_set]; exact hd
        · intro b hb
          rcases set_mem hb with hb | rfl
          · exact h.a b hb
          · exact val_ok hak.1 hp.b (by omega)
        · show hs (x.Server.DB.set (k:Int).toNat _)=_
          rw [Int.toNat_natCast]
          exact hs_set hx _
        · exact sv_set hI.sv hnv _
        · exact qs_set hI.qs hnv _
  · rw [if_pos (bne_iff_ne.2 hc)]
    obtain⟨e,e1,e2⟩:=er_mk F p p.Handle c (by omega) c1
    rw [e1,bs]
    exact⟨_,rfl,hI.kp,.inl e2⟩
theorem f_prep (F:Nat) {x:Txa} {n:Nat} (hI:Iv x.Server n) {p:Tx3} (hp:POk p) (hv:p.Value.length≤512) (hF:1000000020<F):∃r,q3l F x p=some r∧Kp x.Server r.2.Server n∧(Er p r.1∨r.1=PD 23 p.Handle p.Offset 0 p.Value):=by
  have h:=hI.i
  have hd:=h.d
  have hsb:=h.sb
  have hql:=h.q
  obtain⟨i,c,h1,c0,c1,h2⟩:=wri2 F x p.Handle hd hF
  unfold q3l
  rw [h1,bs]
  by_cases hc:c=0
  · subst hc
    obtain⟨k,a,rfl,hx,hah,hw⟩:=h2 rfl
    have ham:=List.mem_of_getElem? hx
    have hnv:=not_svc hI.sv ham hw
    rw [if_neg (show ¬ ((0:Int) != 0)=true by decide)]
    simp only
    rw [dN,hx]
    simp only [bs]
    rw [sis F _ _ (by decide) (by decide)]
    simp only [bs]
    split
    · obtain⟨e,e1,e2⟩:=er_mk F p p.Handle 6 (by decide) (by decide)
      rw [e1,bs]
      exact⟨_,rfl,hI.kp,.inl e2⟩
    · by_cases hl:len x.Server.Queue≥16
      · rw [if_pos (dt hl)]
        obtain⟨e,e1,e2⟩:=er_mk F p p.Handle 9 (by decide) (by decide)
        rw [e1,bs]
        exact⟨_,rfl,hI.kp,.inl e2⟩
      · rw [if_neg (df hl)]
        rw [lN] at hl
        rw [join_one F _ (by omega) (by omega),bs,app_k (by decide) (by simp; omega),bs]
        unfold q6i q6h
        rw [join_one F _ (by omega) (by omega),bs]
        refine ⟨_,rfl,⟨⟨hd,h.a,(show x.Server.Subs.length≤n+1 by omega),?_,?_,h.o,h.ov⟩,rfl,rfl,rfl,rfl,hI.sv,?_⟩,.inr rfl⟩
        · show (x.Server.Queue++_).length≤16
          simp; omega
        · intro y hy
          have hy:y∈x.Server.Queue++[Tx7.mk p.Handle p.Offset p.Value]:=hy
          rcases List.mem_append.1 hy with hy | hy
          · exact h.qv y hy
          · simp at hy
            subst hy
            exact⟨hp.b,by show p.Value.length≤_; omega⟩
        · intro y hy b hb hh
          have hy:y∈x.Server.Queue++[Tx7.mk p.Handle p.Offset p.Value]:=hy
          rcases List.mem_append.1 hy with hy | hy
          · exact hI.qs y hy b hb hh
          · simp at hy
            subst hy
            have hh:b.Handle=a.Handle:=by rw [hah]; exact hh
            obtain⟨j,hj⟩:=List.getElem?_of_mem hb
            have hjk:j=k:=by
              rcases Nat.lt_trichotomy j k with q | q | q
              · have:=pw_at hI.p hj hx q; omega
              · exact q
              · have:=pw_at hI.p hx hj q; omega
            rw [hjk] at hj
            have:x.Server.DB[k]? = some b:=hj
            rw [hx] at this
            injection this with this
            rw [← this]
            exact hnv
  · rw [if_pos (bne_iff_ne.2 hc)]
    obtain⟨e,e1,e2⟩:=er_mk F p p.Handle c (by omega) c1
    rw [e1,bs]
    exact⟨_,rfl,hI.kp,.inl e2⟩
theorem f_exec (F:Nat) {x:Txa} {n:Nat} (hI:Iv x.Server n) (p:Tx3) (hF:1000000020<F):∃r,q3m F x p=some r∧Kp x.Server r.2.Server n∧(Er p r.1∨r.1=PD 25 0 0 0 []):=by
  have h:=hI.i
  have hd:=h.d
  have hsb:=h.sb
  have hql:=h.q
  have hnil:Kp x.Server { x.Server with Queue:=[] } n:=⟨⟨hd,h.a,(show x.Server.Subs.length≤n+1 by omega),by simp,(fun y hy=>by cases hy),h.o,h.ov⟩,rfl,rfl,rfl,rfl,hI.sv,(fun y hy=>by cases hy)⟩
  unfold q3m
  split
  · exact⟨_,rfl,hnil,.inr rfl⟩
  · rw [uattrs F x.Server.DB (fun a ha=>by have:=(h.a a ha).2; omega) (by omega) (by omega),bs]
    obtain⟨o,g1,g2⟩:=iter_by (body:=fun s:List Tx1×List Int×Int=>q2s F x p s.1 s.2.1 s.2.2) (fun s=>∃i:Nat,s.2.2=(i:Int)∧i≤x.Server.Queue.length∧s.1.length≤80∧(∀a∈s.1,AOk a∧a.Value.length≤4096)∧s.2.1.length≤i∧hs s.1=hs x.Server.DB∧Sv s.1∧Qs s.1 x.Server.Queue)
      (fun o=>(∃u,o = .inl u∧u.1.length≤80∧(∀a∈u.1,AOk a∧a.Value.length≤4096)∧hs u.1=hs x.Server.DB∧Sv u.1)∨∃a,o = .inr (a,{ x with Server:={ x.Server with Queue:=[] } })∧Er p a) (fun s=>x.Server.Queue.length - s.2.2.toNat) (by
      rintro⟨db,w,s⟩ ⟨i,hx,hi,hdb,hall,hw,hhs,hsv,hqs⟩
      simp only at hx hdb hall hw hhs hsv hqs
      subst hx
      show (∃s',q2s F x p db w (i:Int)=some (.next s')∧_)∨∃q,q2s F x p db w (i:Int)=some (.done q)∧_
      unfold q2s
      by_cases hin:i<x.Server.Queue.length
      · have hx:x.Server.Queue[i]? = some x.Server.Queue[i]:=gE hin
        have hqv:=h.qv _ (gM hin)
        have hqm:=gM hin
        generalize x.Server.Queue[i]=q at hx hqv hqm
        rw [if_pos (dt (show (i:Int)<len x.Server.Queue by rw [lN]; omega)),dN,hx,bs,ufind F _ _ (by omega) (by omega),bs]
        rcases fnd_cases db q.Handle with e | ⟨k,e,hk⟩
        · rw [e,if_pos (by decide)]
          obtain⟨e,e1,e2⟩:=er_mk F p q.Handle 1 (by decide) (by decide)
          rw [e1,bs]
          exact .inr ⟨_,rfl,.inr ⟨_,rfl,e2⟩⟩
        · obtain⟨a,hxa,hah⟩:=fnd_some e
          have ham:=List.mem_of_getElem? hxa
          have ha:=hall _ ham
          have hnv:=hqs q hqm a ham hah
          rw [e,if_neg (df (by omega)),dN,hxa]
          simp only [bs]
          by_cases ho:(decide (q.Offset<0)||decide (q.Offset > len a.Value))=true
          · rw [if_pos ho]
            obtain⟨e,e1,e2⟩:=er_mk F p q.Handle 7 (by decide) (by decide)
            rw [e1,bs]
            exact .inr ⟨_,rfl,.inr ⟨_,rfl,e2⟩⟩
          · rw [if_neg ho]
            simp only [Bool.or_eq_true,decide_eq_true_eq,not_or] at ho
            rw [lN] at ho
            by_cases hs':w64 (q.Offset+len q.Value) > 512
            · rw [if_pos (dt hs')]
              obtain⟨e,e1,e2⟩:=er_mk F p q.Handle 13 (by decide) (by decide)
              rw [e1,bs]
              exact .inr ⟨_,rfl,.inr ⟨_,rfl,e2⟩⟩
            · rw [if_neg (df hs')]
              have hal:=ha.2
              have hqv2:=hqv.2
              rw [lN,w64_id (by omega) (by omega)] at hs'
              have hsb2:=sub_nat a.Value 0 q.Offset.toNat (by omega) (by omega)
              rw [show (q.Offset.toNat:Int)=q.Offset from by omega,show ((0:Nat):Int)=0 from rfl] at hsb2
              have hll:((a.Value.take q.Offset.toNat).drop 0).length+q.Value.length≤512:=by rw [List.length_drop,List.length_take]; omega
              rw [hsb2,bs,join_two F _ _ (by omega) (by omega),bs]
              unfold upd
              rw [if_pos ⟨by omega,by omega⟩,bs,contains_ok F w _ (by omega) (by omega),bs,Int.toNat_natCast]
              have hset:∀b∈db.set k { a with Value:=(a.Value.take q.Offset.toNat).drop 0++q.Value },AOk b∧b.Value.length≤4096:=by
                intro b hb
                rcases set_mem hb with hb | rfl
                · exact hall b hb
                · refine val_ok ha.1 ?_ (by rw [lA]; omega)
                  intro y hy
                  rcases List.mem_append.1 hy with hy | hy
                  · exact ha.1.b y (List.mem_of_mem_take (List.mem_of_mem_drop hy))
                  · exact hqv.1 y hy
              unfold q50
              split
              · rw [app_k (by decide) (by simp; omega),bs]
                exact .inl ⟨_,rfl,⟨i+1,wN i (by omega),by omega,by simp only; rw [List.length_set]; exact hdb,hset,by simp; omega,(hs_set hxa _).trans hhs,sv_set hsv hnv _,qs_set hqs hnv _⟩,by simp only; rw [wN i (by omega)]; omega⟩
              · exact .inl ⟨_,rfl,⟨i+1,wN i (by omega),by omega,by simp only; rw [List.length_set]; exact hdb,hset,by simp only; omega,(hs_set hxa _).trans hhs,sv_set hsv hnv _,qs_set hqs hnv _⟩,by simp only; rw [wN i (by omega)]; omega⟩
      · rw [if_neg (df (show ¬ (i:Int)<len x.Server.Queue by rw [lN]; omega))]
        exact .inr ⟨_,rfl,.inl ⟨_,rfl,hdb,hall,hhs,hsv⟩⟩) F (x.Server.DB,[],0) ⟨0,rfl,by omega,hd,h.a,by simp,rfl,hI.sv,hI.qs⟩ (by simp only; omega)
    rw [g1,bs]
    rcases g2 with ⟨u,rfl,u1,u2,u3,u4⟩ | ⟨a,rfl,ha⟩
    · exact⟨_,rfl,⟨⟨u1,u2,(show x.Server.Subs.length≤n+1 by omega),by simp [q6j],(fun y hy=>by cases hy),h.o,h.ov⟩,u3,rfl,rfl,rfl,u4,(fun y hy=>by cases hy)⟩,.inr rfl⟩
    · exact⟨_,rfl,hnil,.inl ha⟩
theorem rooms (F:Nat) (m:Int) (h0:23≤m) (h1:m≤517):qh F 11 m=some (imin 512 (m - 1))∧qh F 13 m=some (imin 512 (m - 1))∧qh F 5 m=some (m - 2)∧qh F 9 m=some (m - 2)∧qh F 17 m=some (m - 2):=by
  have e:imax 23 (imin m 517)=m:=by
    unfold imax imin
    repeat' split
    all_goals omega
  have e2:w64 (m - 1)=m - 1:=w64_id (by omega) (by omega)
  have e3:w64 (m - 2)=m - 2:=w64_id (by omega) (by omega)
  unfold qh q4v q3c q4u q42
  rw [e,e2,e3]
  exact⟨rfl,rfl,rfl,rfl,rfl⟩
theorem cut_rng (F:Nat) (b:List Int) (n:Int) (hb:b.length≤4096) (hn:0≤n) (hF:1000000020<F):∃c,q27 F b n=some c∧(c.length:Int)≤n:=by
  unfold q27
  have h1:imax 0 (imin n (len b))=((min n.toNat b.length:Nat):Int):=by
    rw [lN]
    unfold imax imin
    repeat' split
    all_goals omega
  have hs:=sub_nat b 0 (min n.toNat b.length) (by omega) (by omega)
  rw [show ((0:Nat):Int)=0 from rfl] at hs
  have hl:((b.take (min n.toNat b.length)).drop 0).length≤n.toNat:=by rw [List.length_drop,List.length_take]; omega
  have hl2:((b.take (min n.toNat b.length)).drop 0).length≤4096:=by rw [List.length_drop,List.length_take]; omega
  rw [h1,hs,bs,join_one F _ (by omega) (by omega),bs]
  exact⟨_,rfl,by omega⟩
theorem f_read (F:Nat) {x:Txa} {n:Nat} (hI:Iv x.Server n) (hn:n≤900) (p:Tx3) (hk:p.Kind=10∨p.Kind=12) (hF:1000000020<F):∃a,q3d F x p=some a∧(Er p a∨(AnsOk F a x.Server.MTU∧a.Kind=p.Kind+1)):=by
  have h:=hI.i
  have hd:=h.d
  have hm0:=hI.m0
  have hm1:=hI.m1
  have h2:∀(k:Int) (b:List Int),(k=11∨k=13)→b.length≤4096→∃a,q43 F x k b=some a∧AnsOk F a x.Server.MTU∧a.Kind=k:=by
    intro k b hk hb
    obtain⟨q1,q2,_⟩:=rooms F x.Server.MTU hI.m0 hI.m1
    have hr:qh F k x.Server.MTU=some (imin 512 (x.Server.MTU - 1)):=by
      rcases hk with rfl | rfl
      · exact q1
      · exact q2
    have hmin:0≤imin 512 (x.Server.MTU - 1)∧imin 512 (x.Server.MTU - 1)≤512∧imin 512 (x.Server.MTU - 1)≤x.Server.MTU - 1:=by unfold imin; split <;> omega
    obtain⟨c,hc,hcl⟩:=cut_rng F b (imin 512 (x.Server.MTU - 1)) hb hmin.1 hF
    unfold q43 q65
    rw [hr,bs,hc,bs]
    exact⟨_,rfl,val_ans F hk (by omega) hI.m0 (by omega) (by omega),rfl⟩
  unfold q3d
  rw [ufind F _ _ (by omega) (by omega),bs]
  unfold q66
  rcases fnd_cases x.Server.DB p.Handle with q | ⟨k,q,hkl⟩
  · rw [q,if_pos (by decide)]
    obtain⟨e,e1,e2⟩:=er_mk F p p.Handle 1 (by decide) (by decide)
    rw [e1,bs]
    exact⟨_,rfl,.inl e2⟩
  · obtain⟨r,hr,r0,r1,_⟩:=acc_rng F x x.Server.DB[k] 1 2 (by decide) (by decide)
    obtain⟨b,hb,hbl⟩:=shw_some F h hn hkl hF
    rw [q,if_neg (df (by omega)),dN,gE hkl,bs]
    unfold q21
    rw [hr,bs,bs]
    by_cases hr0:r=0
    · subst hr0
      rw [if_neg (by decide),hb,bs]
      rcases hk with hk | hk
      · rw [hk,show q3b F 10=some 11 from rfl,bs,if_neg (by decide)]
        obtain⟨a,a1,a2,a3⟩:=h2 11 b (.inl rfl) hbl
        exact⟨a,a1,.inr ⟨a2,a3⟩⟩
      · rw [hk,show q3b F 12=some 13 from rfl,bs,if_pos (by decide)]
        split
        · obtain⟨e,e1,e2⟩:=er_mk F p p.Handle 7 (by decide) (by decide)
          rw [e1,bs]
          exact⟨_,rfl,.inl e2⟩
        · rename_i hq
          simp only [Bool.or_eq_true,decide_eq_true_eq,not_or] at hq
          rw [lN] at hq
          have hs:=sub_nat b p.Offset.toNat b.length (by omega) (by omega)
          rw [show (p.Offset.toNat:Int)=p.Offset from by omega] at hs
          rw [lN,hs,bs]
          obtain⟨a,a1,a2,a3⟩:=h2 13 _ (.inr rfl) (by rw [List.length_drop,List.length_take]; omega:((b.take b.length).drop p.Offset.toNat).length≤4096)
          exact⟨a,a1,.inr ⟨a2,a3⟩⟩
    · rw [if_pos (bne_iff_ne.2 hr0)]
      obtain⟨e,e1,e2⟩:=er_mk F p p.Handle r (by omega) r1
      rw [e1,bs]
      exact⟨_,rfl,.inl e2⟩
end V
end Go.Proofs.YtoahakdkgefgiaaGreat

namespace Go.Proofs.YtoahakdkgefgiaaGreat
namespace V
theorem encU_two (u:Tx0):2≤(encU u).length:=by
  unfold encU
  split
  · rw [lL]; omega
  · rw [lA,lL]; omega
theorem pw_filter {db:List Tx1} (h:(hs db).Pairwise (· < ·)) (q:Tx1→Bool):(hs (db.filter q)).Pairwise (· < ·):=by
  unfold hs at h ⊢
  rw [List.pairwise_map] at h ⊢
  exact h.filter q
theorem f_find (F:Nat) {x:Txa} {n:Nat} (hI:Iv x.Server n) (p:Tx3) (hF:1000000020<F):∃a,q3i F x p=some (a,x)∧(Er p a∨(AnsOk F a x.Server.MTU∧a.Kind=5)):=by
  have h:=hI.i
  have hd:=h.d
  have hm0:=hI.m0
  have hm1:=hI.m1
  obtain⟨_,_,r5,_,_⟩:=rooms F x.Server.MTU hm0 hm1
  obtain⟨l,hl⟩:∃l,l=x.Server.DB.filter (inr p.Handle p.Last):=⟨_,rfl⟩
  have hpw:(hs l).Pairwise (· < ·):=by rw [hl]; exact pw_filter hI.p _
  have hmem:∀a∈l,a∈x.Server.DB:=by rw [hl]; exact fun a ha=>(List.mem_filter.1 ha).1
  have hll:l.length≤80:=by rw [hl]; exact Nat.le_trans (List.length_filter_le ..) hd
  unfold q3i
  rw [r5,bs,urange F x.Server.DB p.Handle p.Last (by omega) (fun a ha=>by have:=(h.a a ha).2; omega) (by omega),bs,← hl]
  unfold q6a
  generalize hM:x.Server.MTU=m at hm0 hm1
  obtain⟨o,g1,b,g2⟩:=iter_by (body:=fun s:Txc×Int×Int=>q2o F l (len l) s.1 s.2.1 s.2.2) (fun s=>∃(i:Nat) (b:Int),s.2.2=(i:Int)∧i≤l.length∧Lb 5 m s.1 b∧(∀j y,i≤j→l[j]? = some y→b<y.Handle)∧(∀y,s.1.items[0]? = some y→s.2.1=((encU y.fT).length:Int))) (fun o=>∃b,Lb 5 m o b) (fun s=>l.length - s.2.2.toNat) (by
    rintro⟨c,z,s⟩ ⟨i,b,hx,hi,hlb,hb,hz⟩
    simp only at hx hlb hz
    subst hx
    show (∃s',q2o F l (len l) c z (i:Int)=some (.next s')∧_)∨∃q,q2o F l (len l) c z (i:Int)=some (.done q)∧_
    unfold q2o
    by_cases hin:i<l.length
    · have hx:l[i]? = some l[i]:=gE hin
      have ham:=hmem _ (gM hin)
      generalize l[i]=a at hx ham
      have hao:=(h.a a ham).1
      have hap:=pos_at hI.z ham
      have he2:=encU_two a.fT
      have he16:=encU_len a.fT
      rw [if_pos (dt (show (i:Int)<len l by rw [lN]; omega)),dN,hx,bs,uencode F hao.u (by omega),bs]
      have key:∀z':Int,(∀y,c.items[0]? = some y→z'=((encU y.fT).length:Int))→(∃s',q3h F c (i:Int) a (encU a.fT) z'=some (.next s')∧(∃(i:Nat) (b:Int),s'.2.2=(i:Int)∧i≤l.length∧Lb 5 m s'.1 b∧(∀j y,i≤j→l[j]? = some y→b<y.Handle)∧(∀y,s'.1.items[0]? = some y→s'.2.1=((encU y.fT).length:Int)))∧l.length - s'.2.2.toNat<l.length - (i:Int).toNat)∨(∃q,q3h F c (i:Int) a (encU a.fT) z'=some (.done q)∧∃b,Lb 5 m q b):=by
        intro z' hz'
        unfold q3h q69
        by_cases hne:(len (encU a.fT) != z')=true
        · rw [if_pos hne,bs,if_pos rfl]
          exact .inr ⟨_,rfl,b,hlb⟩
        · rw [if_neg hne]
          have hze:len (encU a.fT)=z':=by simpa using hne
          rw [lN] at hze
          have hib:(ib 5 (Tx2.mk a.Handle 0 a.fT [])).length=2+(encU a.fT).length:=by
            show (leb 2 a.Handle++encU a.fT).length=_
            rw [lA,lL]
          obtain⟨r,k1,k2,k3⟩:=add_ok F (x:=Tx2.mk a.Handle 0 a.fT []) (z:=w64 (2+len (encU a.fT))) hlb hm1 ⟨hao.h0,hao.h1,Int.le_refl 0,(show (0:Int)<65536 by decide),hao.u,by simp⟩ hap ⟨fun _=>rfl,fun h=>absurd rfl h,fun _=>rfl,fun h=>absurd h (by decide)⟩ (hb i a (by omega) hx) (by rw [hib,lN,w64_id (by omega) (by omega)]; omega) (by rw [hib]; omega) (by
            intro y hy
            have:=hz' y hy
            have hy5:(ib 5 y).length=2+(encU y.fT).length:=by
              show (leb 2 y.Handle++encU y.fT).length=_
              rw [lA,lL]
            rw [hy5,hib]
            omega)
          rw [k1,bs,bs]
          cases hr:r.1 with
          | false=>
            rw [show (!false)=true from rfl,if_pos rfl,k3 hr]
            exact .inr ⟨_,rfl,b,hlb⟩
          | true=>
            rw [show (!true)=false from rfl,if_neg (show ¬ (false=true) by decide)]
            obtain⟨k4,k5⟩:=k2 hr
            refine .inl ⟨_,rfl,⟨i+1,_,wN i (by omega),by omega,k4,?_,?_⟩,by simp only; rw [wN i (by omega)]; omega⟩
            · intro j y hj hy
              have:=pw_at hpw hx hy (by omega)
              simp only [imax]
              split <;> omega
            · intro y hy
              simp only at hy ⊢
              rw [k5] at hy
              by_cases hc:c.items.length=0
              · have:c.items=[]:=List.length_eq_zero_iff.1 hc
                rw [this] at hy
                simp at hy
                rw [← hy]
                exact hze.symm
              · rw [List.getElem?_append_left (by omega)] at hy
                exact hz' y hy
      by_cases hz0:(z == 0)=true
      · rw [if_pos hz0]
        apply key
        intro y hy
        have:=hz y hy
        have hy2:=encU_two y.fT
        have:z=0:=by simpa using hz0
        omega
      · rw [if_neg hz0]
        exact key z hz
    · rw [if_neg (df (show ¬ (i:Int)<len l by rw [lN]; omega))]
      exact .inr ⟨_,rfl,b,hlb⟩) F (Txc.mk [] (m - 2),0,0) ⟨0,0,rfl,by omega,lb_nil 5 hm0,(fun j y _ hy=>pos_at hI.z (hmem y (List.mem_of_getElem? hy))),(fun y hy=>by simp at hy)⟩ (by simp only; omega)
  rw [g1,bs]
  unfold q68
  by_cases hne:((len o.items) == 0)=true
  · rw [if_pos hne]
    obtain⟨e,e1,e2⟩:=er_mk F p p.Handle 10 (by decide) (by decide)
    rw [e1,bs]
    exact⟨_,rfl,.inl e2⟩
  · rw [if_neg hne]
    exact⟨_,rfl,.inr ⟨lst_ans F (.inl rfl) g2 hne hm0 hm1 hF,rfl⟩⟩
theorem f_byType (F:Nat) {x:Txa} {n:Nat} (hI:Iv x.Server n) (hn:n≤900) (p:Tx3) (hF:1000000020<F):∃a,q3j F x p=some (a,x)∧(Er p a∨(AnsOk F a x.Server.MTU∧a.Kind=9)):=by
  have h:=hI.i
  have hd:=h.d
  have hm0:=hI.m0
  have hm1:=hI.m1
  obtain⟨_,_,_,r9',_⟩:=rooms F x.Server.MTU hm0 hm1
  have hz0:=hI.z
  have hpw:=hI.p
  unfold q3j
  rw [r9',bs]
  obtain⟨m,hM⟩:∃m,x.Server.MTU=m:=⟨_,rfl⟩
  rw [hM] at hm0 hm1 ⊢
  obtain⟨o,g1,g2⟩:=iter_by (body:=fun s:Txc×Int=>q2p F x p s.1 s.2) (fun s=>∃(i:Nat) (b:Int),s.2=(i:Int)∧i≤x.Server.DB.length∧Lb 9 m s.1 b∧∀j y,i≤j→x.Server.DB[j]? = some y→b<y.Handle) (fun o=>(∃u b,o = .inl u∧Lb 9 m u b)∨∃a,o = .inr (a,x)∧Er p a) (fun s=>x.Server.DB.length - s.2.toNat) (by
    rintro⟨c,s⟩ ⟨i,b,hx,hi,hlb,hb⟩
    simp only at hx hlb
    subst hx
    show (∃s',q2p F x p c (i:Int)=some (.next s')∧_)∨∃q,q2p F x p c (i:Int)=some (.done q)∧_
    unfold q2p
    by_cases hin:i<x.Server.DB.length
    · have hx:x.Server.DB[i]? = some x.Server.DB[i]:=gE hin
      have ham:=gM hin
      generalize x.Server.DB[i]=a at hx ham
      have hao:=(h.a a ham).1
      have hap:=pos_at hz0 ham
      obtain⟨e,he,e0,e1,_⟩:=acc_rng F x a 1 2 (by decide) (by decide)
      obtain⟨w,hw,hwl⟩:=shw_some F h hn hin hF
      have hmin:0≤imin (w64 (m - 4)) 253∧imin (w64 (m - 4)) 253≤253:=by
        rw [w64_id (by omega) (by omega)]
        unfold imin
        split <;> omega
      obtain⟨v,hv,hvl⟩:=cut_rng F w (imin (w64 (m - 4)) 253) hwl hmin.1 hF
      have hv253:v.length≤253:=by omega
      clear hvl
      rw [if_pos (dt (show (i:Int)<len x.Server.DB by rw [lN]; omega)),dN,hx,bs]
      unfold q21
      rw [he,hw,hM]
      simp only [bs]
      rw [hv]
      simp only [bs]
      have h2:∀(c':Txc) (b':Int),Lb 9 m c' b'→(∀j y,i+1≤j→x.Server.DB[j]? = some y→b'<y.Handle)→(∃s',q4y F (i:Int) c'=some (.next s')∧(∃(i:Nat) (b:Int),s'.2=(i:Int)∧i≤x.Server.DB.length∧Lb 9 m s'.1 b∧∀j y,i≤j→x.Server.DB[j]? = some y→b<y.Handle)∧x.Server.DB.length - s'.2.toNat<x.Server.DB.length - (i:Int).toNat):=fun c' b' q1 q2=>
        ⟨_,rfl,⟨i+1,b',wN i (by omega),by omega,q1,q2⟩,by simp only; rw [wN i (by omega)]; omega⟩
      split
      · exact .inl (h2 c b hlb fun j y hj=>hb j y (by omega))
      · split
        · rename_i hq
          rw [Bool.and_eq_true] at hq
          have hne:e≠0:=bne_iff_ne.1 hq.1
          obtain⟨t,t1,t2⟩:=er_mk F p a.Handle e (by omega) e1
          rw [t1,bs]
          exact .inr ⟨_,rfl,.inr ⟨_,rfl,t2⟩⟩
        · unfold q6d q6c
          have hz:∃z,(if (e != 0)=true then some true else if decide (len c.items > 0)=true then (idx c.items 0).bind fun x_30=>some (len v != len x_30.Value) else some false)=some z∧(z=false→∀y,c.items[0]? = some y→y.Value.length=v.length):=by
            split
            · exact⟨_,rfl,fun h=>by cases h⟩
            · split
              · rename_i hc
                have hc:=of_decide_eq_true hc
                rw [lN] at hc
                have h0:c.items[0]? = some c.items[0]:=gE (by omega)
                generalize c.items[0]=y at h0
                rw [show idx c.items 0=c.items[0]? from dN c.items 0,h0,bs]
                refine ⟨_,rfl,fun hq y' hy'=>?_⟩
                injection hy' with hy'
                have hq:len v=len y.Value:=by simpa using hq
                rw [lN,lN] at hq
                rw [← hy']
                omega
              · rename_i hc
                refine ⟨_,rfl,fun _ y hy=>?_⟩
                have:=(gS.1 hy).1
                exact absurd (dt (by rw [lN]; omega)) hc
          obtain⟨z,hz,hz2⟩:=hz
          rw [hz,bs]
          cases z with
          | true=>
            rw [if_pos rfl,bs,if_pos rfl]
            exact .inr ⟨_,rfl,.inl ⟨_,b,rfl,hlb⟩⟩
          | false=>
            rw [if_neg (by decide)]
            have hib:(ib 9 (Tx2.mk a.Handle 0 (Tx0.mk 0 0) v)).length=2+v.length:=by
              show (leb 2 a.Handle++v).length=_
              rw [lA,lL]
            obtain⟨r,k1,k2,k3⟩:=add_ok F (x:=Tx2.mk a.Handle 0 (Tx0.mk 0 0) v) (z:=w64 (2+len v)) hlb hm1 ⟨hao.h0,hao.h1,Int.le_refl 0,(show (0:Int)<65536 by decide),uz_ok,by show v.length≤_; omega⟩ hap ⟨(fun h=>absurd h (by decide)),(fun _=>rfl),(fun _=>rfl),(fun h=>absurd h (by decide))⟩ (hb i a (by omega) hx) (by rw [hib,lN,w64_id (by omega) (by omega)]; omega) (by rw [hib]; omega) (by
              intro y hy
              have:=hz2 rfl y hy
              have hy5:(ib 9 y).length=2+y.Value.length:=by
                show (leb 2 y.Handle++y.Value).length=_
                rw [lA,lL]
              rw [hy5,hib]
              omega)
            rw [k1,bs,bs]
            cases hr:r.1 with
            | false=>
              rw [show (!false)=true from rfl,if_pos rfl,k3 hr]
              exact .inr ⟨_,rfl,.inl ⟨_,b,rfl,hlb⟩⟩
            | true=>
              rw [show (!true)=false from rfl,if_neg (show ¬ (false=true) by decide)]
              obtain⟨k4,_⟩:=k2 hr
              refine .inl (h2 _ _ k4 ?_)
              intro j y hj hy
              have:=pw_at hpw hx hy (by omega)
              simp only [imax]
              split <;> omega
    · rw [if_neg (df (show ¬ (i:Int)<len x.Server.DB by rw [lN]; omega))]
      exact .inr ⟨_,rfl,.inl ⟨_,b,rfl,hlb⟩⟩) F (Txc.mk [] (m - 2),0) ⟨0,0,rfl,by omega,lb_nil 9 hm0,(fun j y _ hy=>pos_at hz0 (List.mem_of_getElem? hy))⟩ (by simp only; omega)
  rw [g1,bs]
  rcases g2 with ⟨u,b,rfl,hu⟩ | ⟨a,rfl,ha⟩
  · simp only
    unfold q6b
    by_cases hne:((len u.items) == 0)=true
    · rw [if_pos hne]
      obtain⟨e,e1,e2⟩:=er_mk F p p.Handle 10 (by decide) (by decide)
      rw [e1,bs]
      exact⟨_,rfl,.inl e2⟩
    · rw [if_neg hne]
      exact⟨_,rfl,.inr ⟨lst_ans F (.inr (.inl rfl)) hu hne hm0 hm1 hF,rfl⟩⟩
  · exact⟨a,rfl,.inl ha⟩
theorem grp_at (F:Nat) {db:List Tx1} (hdb:∀a∈db,AOk a) (hpw:(hs db).Pairwise (· < ·)) (hn:db.length≤80) {i:Nat} {a:Tx1} (hx:db[i]? = some a) (hv:isv a.fT=true) (hF:1000000020<F):∃L b,q2q F db a.Handle=some (L,b)∧a.Handle≤L∧L<65536∧∀j y,i<j→db[j]? = some y→isv y.fT=true→L<y.Handle:=by
  have hinc:Inc db:=fun i a b ha hb=>pw_at hpw ha hb (by omega)
  have hf:=fnd_at hinc hx
  have hil:=(gS.1 hx).1
  have hfi:db.findIdx? (fun b=>b.Handle == a.Handle)=some i:=by
    unfold fnd at hf
    cases he:db.findIdx? (fun b=>b.Handle == a.Handle) with
    | none=>rw [he] at hf; simp only at hf; omega
    | some q=>rw [he] at hf; simp only at hf; rw [show q=i from by omega]
  have hl:=lst_lt hil
  have hxl:db[lst db i]? = some db[lst db i]:=gE hl
  have hlo:=hdb _ (gM hl)
  generalize db[lst db i]=e at hxl hlo
  rw [ugroup F db hdb _ (by omega) (by omega)]
  unfold grp
  rw [hfi]
  simp only [hx,hv,if_true]
  unfold hnd
  rw [hxl]
  refine ⟨_,_,rfl,?_,hlo.h1,?_⟩
  · show a.Handle≤e.Handle
    by_cases hli:lst db i=i
    · rw [hli,hx] at hxl
      injection hxl with hxl
      rw [hxl]
      exact Int.le_refl _
    · have:i<lst db i:=by unfold lst at hli ⊢; omega
      have:=pw_at hpw hx hxl this
      omega
  · intro j y hj hy hyv
    refine pw_at hpw hxl hy ?_
    by_cases hq:lst db i<j
    · exact hq
    · exfalso
      unfold lst at hq
      have hr:j - (i+1)<run (db.drop (i+1)):=by omega
      obtain⟨w,hw,hwv⟩:=run_lt hr
      rw [List.getElem?_drop,show i+1+(j - (i+1))=j from by omega,hy] at hw
      injection hw with hw
      rw [hw,hwv] at hyv
      cases hyv
theorem f_group (F:Nat) {x:Txa} {n:Nat} (hI:Iv x.Server n) (p:Tx3) (hF:1000000020<F):∃a,q3k F x p=some (a,x)∧(Er p a∨(AnsOk F a x.Server.MTU∧a.Kind=17)):=by
  have h:=hI.i
  have hd:=h.d
  have hm0:=hI.m0
  have hm1:=hI.m1
  obtain⟨_,_,_,_,r17⟩:=rooms F x.Server.MTU hm0 hm1
  have hz0:=hI.z
  have hpw:=hI.p
  have hsv:=hI.sv
  unfold q3k
  rw [sis F _ _ (by decide) (by decide),sis F _ _ (by decide) (by decide),bs]
  have hz:(if (!isN p.fT 10240)=true then (some (isN p.fT 10241)).bind fun x_38=>some (!x_38) else some false)=some (!isv p.fT):=by
    unfold isv
    cases isN p.fT 10240 <;> rfl
  rw [hz,bs]
  cases hpv:isv p.fT with
  | false=>
    rw [show (!false)=true from rfl,if_pos rfl]
    obtain⟨e,e1,e2⟩:=er_mk F p p.Handle 16 (by decide) (by decide)
    rw [e1,bs]
    exact⟨_,rfl,.inl e2⟩
  | true=>
  rw [show (!true)=false from rfl,if_neg (by decide),r17,bs]
  obtain⟨m,hM⟩:∃m,x.Server.MTU=m:=⟨_,rfl⟩
  rw [hM] at hm0 hm1 ⊢
  obtain⟨o,g1,b,g2⟩:=iter_by (body:=fun s:Txc×Int=>q2r F x p s.1 s.2) (fun s=>∃(i:Nat) (b:Int),s.2=(i:Int)∧i≤x.Server.DB.length∧Lb 17 m s.1 b∧∀j y,i≤j→x.Server.DB[j]? = some y→isv y.fT=true→b<y.Handle) (fun o=>∃b,Lb 17 m o b) (fun s=>x.Server.DB.length - s.2.toNat) (by
    rintro⟨c,s⟩ ⟨i,b,hx,hi,hlb,hb⟩
    simp only at hx hlb
    subst hx
    show (∃s',q2r F x p c (i:Int)=some (.next s')∧_)∨∃q,q2r F x p c (i:Int)=some (.done q)∧_
    unfold q2r
    by_cases hin:i<x.Server.DB.length
    · have hx:x.Server.DB[i]? = some x.Server.DB[i]:=gE hin
      have ham:=gM hin
      generalize x.Server.DB[i]=a at hx ham
      have hao:=(h.a a ham).1
      have hap:=pos_at hz0 ham
      rw [if_pos (dt (show (i:Int)<len x.Server.DB by rw [lN]; omega)),dN,hx,bs]
      have h2:∀(c':Txc) (b':Int),Lb 17 m c' b'→(∀j y,i+1≤j→x.Server.DB[j]? = some y→isv y.fT=true→b'<y.Handle)→(∃s',q4z F (i:Int) c'=some (.next s')∧(∃(i:Nat) (b:Int),s'.2=(i:Int)∧i≤x.Server.DB.length∧Lb 17 m s'.1 b∧∀j y,i≤j→x.Server.DB[j]? = some y→isv y.fT=true→b<y.Handle)∧x.Server.DB.length - s'.2.toNat<x.Server.DB.length - (i:Int).toNat):=fun c' b' q1 q2=>
        ⟨_,rfl,⟨i+1,b',wN i (by omega),by omega,q1,q2⟩,by simp only; rw [wN i (by omega)]; omega⟩
      by_cases hsk:(((!((a.fT.High == p.fT.High)&&(a.fT.Low == p.fT.Low)))||(decide (a.Handle<p.Handle)))||(decide (a.Handle > p.Last)))=true
      · rw [if_pos hsk]
        exact .inl (h2 c b hlb fun j y hj=>hb j y (by omega))
      · rw [if_neg hsk]
        have hty:a.fT=p.fT:=by
          simp only [Bool.or_eq_true,not_or,Bool.not_eq_true',Bool.not_eq_false,Bool.and_eq_true,beq_iff_eq] at hsk
          obtain⟨⟨⟨q1,q2⟩,_⟩,_⟩:=hsk
          cases ha:a.fT with
          | mk a1 a2=>
            cases hp:p.fT with
            | mk b1 b2=>
              rw [ha,hp] at q1 q2
              simp only at q1 q2
              rw [q1,q2]
        have hav:isv a.fT=true:=by rw [hty]; exact hpv
        obtain⟨hvl,_⟩:=hsv a ham hav
        obtain⟨L,bb,l1,l2,l3,l4⟩:=grp_at F (fun a ha=>(h.a a ha).1) hpw hd hx hav hF
        rw [l1,bs]
        have hib:(ib 17 (Tx2.mk a.Handle L (Tx0.mk 0 0) a.Value)).length=4+a.Value.length:=by
          show (leb 2 a.Handle++leb 2 L++a.Value).length=_
          rw [lA,lA,lL,lL]
        have hadd:(∀y,c.items[0]? = some y→y.Value.length=a.Value.length)→(∃s',(qp F c (Tx2.mk a.Handle L (Tx0.mk 0 0) a.Value) (w64 (4+len a.Value))).bind (fun q=>q2a F (i:Int) q.2 (!q.1))=some (.next s')∧(∃(i:Nat) (b:Int),s'.2=(i:Int)∧i≤x.Server.DB.length∧Lb 17 m s'.1 b∧∀j y,i≤j→x.Server.DB[j]? = some y→isv y.fT=true→b<y.Handle)∧x.Server.DB.length - s'.2.toNat<x.Server.DB.length - (i:Int).toNat)∨(∃q,(qp F c (Tx2.mk a.Handle L (Tx0.mk 0 0) a.Value) (w64 (4+len a.Value))).bind (fun q=>q2a F (i:Int) q.2 (!q.1))=some (.done q)∧∃b,Lb 17 m q b):=by
          intro h0
          obtain⟨r,k1,k2,k3⟩:=add_ok F (x:=Tx2.mk a.Handle L (Tx0.mk 0 0) a.Value) (z:=w64 (4+len a.Value)) hlb hm1 ⟨hao.h0,hao.h1,by show 0≤L; omega,l3,uz_ok,by show a.Value.length≤_; omega⟩ hap ⟨(fun h=>absurd h (by decide)),(fun _=>rfl),(fun h=>absurd rfl h),(fun _=>l2)⟩ (hb i a (by omega) hx hav) (by rw [hib,lN,w64_id (by omega) (by omega)]; omega) (by rw [hib]; omega) (by
            intro y hy
            have:=h0 y hy
            have hy5:(ib 17 y).length=4+y.Value.length:=by
              show (leb 2 y.Handle++leb 2 y.Last++y.Value).length=_
              rw [lA,lA,lL,lL]
            rw [hy5,hib]
            omega)
          rw [k1,bs]
          unfold q2a
          cases hr:r.1 with
          | false=>
            rw [show (!false)=true from rfl,if_pos rfl,k3 hr]
            exact .inr ⟨_,rfl,b,hlb⟩
          | true=>
            rw [show (!true)=false from rfl,if_neg (show ¬ (false=true) by decide)]
            obtain⟨k4,_⟩:=k2 hr
            refine .inl (h2 _ _ k4 ?_)
            intro j y hj hy hyv
            have:=l4 j y (by omega) hy hyv
            simp only [imax]
            split <;> omega
        unfold q6g
        have hjn:=join_one F a.Value (by omega) (by omega)
        by_cases hc:decide (len c.items > 0)=true
        · rw [if_pos hc]
          have hc':=of_decide_eq_true hc
          rw [lN] at hc'
          have h0:c.items[0]? = some c.items[0]:=gE (by omega)
          generalize c.items[0]=y at h0
          rw [show idx c.items 0=c.items[0]? from dN c.items 0,h0,bs]
          by_cases hne:(len a.Value != len y.Value)=true
          · rw [if_pos hne]
            unfold q2a
            rw [if_pos rfl]
            exact .inr ⟨_,rfl,b,hlb⟩
          · rw [if_neg hne,hjn,bs]
            refine hadd fun y' hy'=>?_
            rw [h0] at hy'
            injection hy' with hy'
            have hq:len a.Value=len y.Value:=by simpa using hne
            rw [lN,lN] at hq
            rw [← hy']
            omega
        · rw [if_neg hc,hjn,bs]
          refine hadd fun y hy=>?_
          have:=(gS.1 hy).1
          exact absurd (dt (by rw [lN]; omega)) hc
    · rw [if_neg (df (show ¬ (i:Int)<len x.Server.DB by rw [lN]; omega))]
      exact .inr ⟨_,rfl,b,hlb⟩) F (Txc.mk [] (m - 2),0) ⟨0,0,rfl,by omega,lb_nil 17 hm0,(fun j y _ hy _=>pos_at hz0 (List.mem_of_getElem? hy))⟩ (by simp only; omega)
  rw [g1,bs]
  unfold q6f
  by_cases hne:((len o.items) == 0)=true
  · rw [if_pos hne]
    obtain⟨e,e1,e2⟩:=er_mk F p p.Handle 10 (by decide) (by decide)
    rw [e1,bs]
    exact⟨_,rfl,.inl e2⟩
  · rw [if_neg hne]
    exact⟨_,rfl,.inr ⟨lst_ans F (.inr (.inr rfl)) g2 hne hm0 hm1 hF,rfl⟩⟩
end V
end Go.Proofs.YtoahakdkgefgiaaGreat

namespace Go.Proofs.YtoahakdkgefgiaaGreat
namespace V
def rq (k:Int):Bool:=k == 2||(k == 4||(k == 8||(k == 10||(k == 12||(k == 16||(k == 18||(k == 22||k == 24)))))))
theorem rans (F:Nat) (k:Int):(if (k != 29)=true then (q1k F k).bind fun x=>some (decide (x≥0)) else some false)=some (rq k):=by
  by_cases h29:k=29
  · subst h29; rfl
  rw [if_pos (bne_iff_ne.2 h29)]
  unfold q1k qz
  by_cases a1:k=2
  · subst a1; rfl
  by_cases a2:k=4
  · subst a2; rfl
  by_cases a3:k=8
  · subst a3; rfl
  by_cases a4:k=10
  · subst a4; rfl
  by_cases a5:k=12
  · subst a5; rfl
  by_cases a6:k=16
  · subst a6; rfl
  by_cases a7:k=18
  · subst a7; rfl
  by_cases a8:k=22
  · subst a8; rfl
  by_cases a9:k=24
  · subst a9; rfl
  have e:rq k=false:=by
    unfold rq
    simp only [Bool.or_eq_false_iff,beq_eq_false_iff_ne]
    exact⟨a1,a2,a3,a4,a5,a6,a7,a8,a9⟩
  rw [e]
  simp [a1,a2,a3,a4,a5,a6,a7,a8,a9,h29]
theorem unew (F:Nat) {db:List Tx1} (hdb:∀a∈db,AOk a) (mx lv:Int) (rb:Bool) (aw:Int) {subs:List Tx6} (hn:db.length≤10000000) (hsn:subs.length≤10000000) (hF:db.length+25<F) (hF2:subs.length+25<F) :
    ∃x,q1u F db mx lv rb aw subs=some x∧((x.2≠0)∨(x=(mkS db mx lv rb aw subs,0)∧wirelessref43_Check F db=some 0∧23≤mx∧mx≤517)):=by
  obtain⟨e,h1,h2⟩:=check_same F db hdb (by omega) (by omega)
  unfold q1u
  rw [h1,bs]
  by_cases he:(e != 0)=true
  · rw [if_pos he]
    exact⟨_,rfl,.inl (bne_iff_ne.1 he)⟩
  · rw [if_neg he]
    have he0:e=0:=by simpa using he
    subst he0
    have hg:=rcheck_all F db hdb (by omega) (by omega) h2
    split
    · exact⟨_,rfl,.inl (by decide)⟩
    · rename_i hrng
      simp only [Bool.or_eq_true,decide_eq_true_eq,not_or] at hrng
      obtain⟨o1,g1,g3⟩:=iter_by (body:=fun s:Int×Int=>q2i F db subs s.1 s.2)
        (fun s=>∃i:Nat,i≤subs.length∧s.2=(i:Int)) (fun a=>a = .inl ()∨∃x,a = .inr x∧x.2≠0) (fun s=>subs.length - s.2.toNat) (by
        rintro⟨last,x⟩ ⟨i,hi1,hx⟩
        simp only at hx
        subst hx
        show (∃t1,q2i F db subs last (i:Int)=some (.next t1)∧_)∨∃o1,q2i F db subs last (i:Int)=some (.done o1)∧_
        unfold q2i
        by_cases hin:i<subs.length
        · have hx:subs[i]? = some subs[i]:=gE hin
          generalize hq:subs[i]=s at hx
          rw [if_pos (dt (show (i:Int)<len subs by rw [lN]; omega)),dN,hx,bs]
          have hsub:∃y,q14 F db s.Handle=some y:=by
            rcases usub F hdb hg s.Handle (by omega) (by omega) with ⟨k1,_⟩ | ⟨j,c,a,_,k1⟩
            · exact⟨_,k1⟩
            · exact⟨_,k1⟩
          obtain⟨y,hy⟩:=hsub
          rw [hy,bs]
          split
          · exact .inr ⟨_,rfl,.inr ⟨_,rfl,by decide⟩⟩
          · split
            · exact .inr ⟨_,rfl,.inr ⟨_,rfl,by decide⟩⟩
            · split
              · exact .inr ⟨_,rfl,.inr ⟨_,rfl,by decide⟩⟩
              · exact .inl ⟨_,rfl,⟨i+1,by omega,wN i (by omega)⟩,by simp only; rw [wN i (by omega)]; omega⟩
        · rw [if_neg (df (show ¬ (i:Int)<len subs by rw [lN]; omega))]
          exact .inr ⟨_,rfl,.inl rfl⟩) F (0,0) ⟨0,by omega,rfl⟩ (by simp only; omega)
      rw [g1]
      rcases g3 with rfl | ⟨x,rfl,hx⟩
      · simp only [bs]
        unfold q5v
        rw [uattrs F db (fun a ha=>(hdb a ha).l) hn (by omega),uclone F subs hsn]
        refine ⟨_,rfl,.inr ⟨rfl,?_,by omega,by omega⟩⟩
        first | exact h2 | trivial
      · exact⟨_,rfl,.inl hx⟩
theorem ans_rq (F:Nat) {k:Int} (h:rq k=true):q1k F k=some (k+1)∧0≤k∧k≤255:=by
  unfold rq at h
  simp only [Bool.or_eq_true,beq_iff_eq] at h
  rcases h with rfl | rfl | rfl | rfl | rfl | rfl | rfl | rfl | rfl
  all_goals exact⟨rfl,by decide,by decide⟩
def Gd (F:Nat) (p a:Tx3) (m:Int):Prop:=AnsOk F a m∧(a.Kind=1∨a.Kind=p.Kind+1)
theorem gd_er (F:Nat) {p a:Tx3} (h:Er p a) (hr:rq p.Kind=true) {m:Int} (hm:23≤m) (hF:1000000020<F):Gd F p a m:=by
  obtain⟨_,k0,k1⟩:=ans_rq F hr
  refine ⟨er_ok F h k0 k1 hm (by omega),?_⟩
  obtain⟨hd,c,rfl,_⟩:=h
  exact .inl rfl
theorem f_j2 (F:Nat) {s:Tx8} {n:Nat} (hI:Iv s n) (hn:n≤900) {p:Tx3} (hp:POk p) (hv:p.Value.length≤512) (hmt:p.Kind=2→23≤p.MTU) (hpr:p.Kind=22→p.Handle≠0∧0≤p.Offset∧p.Offset≤65535∧(p.Value.length:Int)+5≤s.MTU) (hr:rq p.Kind=true) (hF:1000000020<F) (aw:Int) :
    ∃r a,q44 F p (Txa.mk s []) aw=some r∧Iv r.1 (n+1)∧r.2.1=[a]∧Gd F p a r.1.MTU:=by
  obtain⟨x,hx⟩:∃x:Txa,x=Txa.mk { s with Aware:=aw } []:=⟨_,rfl⟩
  have hi:Iv x.Server n:=by rw [hx]; exact⟨⟨hI.i.d,hI.i.a,hI.i.sb,hI.i.q,hI.i.qv,hI.i.o,hI.i.ov⟩,hI.p,hI.z,hI.m0,hI.m1,hI.x0,hI.x1,hI.r,hI.sv,hI.qs⟩
  have hxm:x.Server.MTU=s.MTU:=by rw [hx]
  have hup:=hi.kp.iv hi
  have hup2:Iv { s with Aware:=aw } (n+1):=by rw [hx] at hup; exact hup
  have hm0:=hi.m0
  unfold q44
  rw [show ({ Txa.mk s [] with Server:={ (Txa.mk s []).Server with Aware:=aw } }:Txa)=x from hx.symm]
  by_cases c1:((p.Kind == 10)||(p.Kind == 12))=true
  · rw [if_pos c1]
    have c1':p.Kind=10∨p.Kind=12:=by simpa using c1
    obtain⟨a,ha,h2⟩:=f_read F hi hn p c1' hF
    rw [ha,bs]
    refine ⟨_,a,rfl,hup2,rfl,?_⟩
    show Gd F p a s.MTU
    rw [← hxm]
    rcases h2 with h2 | ⟨h2,h3⟩
    · exact gd_er F h2 hr hm0 hF
    · exact⟨h2,.inr h3⟩
  rw [if_neg c1]
  by_cases c2:(p.Kind == 2)=true
  · rw [if_pos c2]
    have c2':p.Kind=2:=by simpa using c2
    have hm:=hmt c2'
    have hx0:=hi.x0
    have hx1:=hi.x1
    have hmin:23≤imin p.MTU x.Server.Max∧imin p.MTU x.Server.Max≤517:=by unfold imin; split <;> omega
    refine ⟨_,_,rfl,⟨⟨hup.i.d,hup.i.a,hup.i.sb,hup.i.q,hup.i.qv,hup.i.o,hup.i.ov⟩,hup.p,hup.z,hmin.1,hmin.2,hup.x0,hup.x1,hup.r,hup.sv,hup.qs⟩,rfl,?_,.inr ?_⟩
    · exact mtu_ans F hx0 hx1 hmin.1 (by omega)
    · show (3:Int)=p.Kind+1
      rw [c2']; rfl
  rw [if_neg c2]
  by_cases c3:(p.Kind == 4)=true
  · rw [if_pos c3]
    have c3':p.Kind=4:=by simpa using c3
    obtain⟨a,ha,h2⟩:=f_find F hi p hF
    rw [ha,bs]
    refine ⟨_,a,rfl,hup,rfl,?_⟩
    rcases h2 with h2 | ⟨h2,h3⟩
    · exact gd_er F h2 hr hm0 hF
    · exact⟨h2,.inr (by rw [h3,c3']; rfl)⟩
  rw [if_neg c3]
  by_cases c4:(p.Kind == 8)=true
  · rw [if_pos c4]
    have c4':p.Kind=8:=by simpa using c4
    obtain⟨a,ha,h2⟩:=f_byType F hi hn p hF
    rw [ha,bs]
    refine ⟨_,a,rfl,hup,rfl,?_⟩
    rcases h2 with h2 | ⟨h2,h3⟩
    · exact gd_er F h2 hr hm0 hF
    · exact⟨h2,.inr (by rw [h3,c4']; rfl)⟩
  rw [if_neg c4]
  by_cases c5:(p.Kind == 16)=true
  · rw [if_pos c5]
    have c5':p.Kind=16:=by simpa using c5
    obtain⟨a,ha,h2⟩:=f_group F hi p hF
    rw [ha,bs]
    refine ⟨_,a,rfl,hup,rfl,?_⟩
    rcases h2 with h2 | ⟨h2,h3⟩
    · exact gd_er F h2 hr hm0 hF
    · exact⟨h2,.inr (by rw [h3,c5']; rfl)⟩
  rw [if_neg c5]
  by_cases c6:(p.Kind == 18)=true
  · rw [if_pos c6]
    have c6':p.Kind=18:=by simpa using c6
    obtain⟨r,hr1,h1,h2⟩:=f_write F hi hn hp hv hF
    rw [hr1,bs]
    have hrm:=h1.m
    refine ⟨_,r.1,rfl,h1.iv hi,rfl,?_⟩
    show Gd F p r.1 r.2.Server.MTU
    rw [hrm]
    rcases h2 with h2 | h2
    · exact gd_er F h2 hr hm0 hF
    · rw [h2]
      exact⟨don_ans F (.inl rfl) hm0 (by omega),.inr (by rw [c6']; rfl)⟩
  rw [if_neg c6]
  by_cases c7:(p.Kind == 22)=true
  · rw [if_pos c7]
    have c7':p.Kind=22:=by simpa using c7
    obtain⟨r,hr1,h1,h2⟩:=f_prep F hi hp hv hF
    rw [hr1,bs]
    have hrm:=h1.m
    obtain⟨q1,q2,q3,q4⟩:=hpr c7'
    refine ⟨_,r.1,rfl,h1.iv hi,rfl,?_⟩
    show Gd F p r.1 r.2.Server.MTU
    rw [hrm]
    rcases h2 with h2 | h2
    · exact gd_er F h2 hr hm0 hF
    · rw [h2]
      exact⟨pre_ans F q1 q2 q3 hv (by rw [hxm]; exact q4) (by omega),.inr (by rw [c7']; rfl)⟩
  rw [if_neg c7]
  by_cases c8:(p.Kind == 24)=true
  · rw [if_pos c8]
    have c8':p.Kind=24:=by simpa using c8
    obtain⟨r,hr1,h1,h2⟩:=f_exec F hi p hF
    rw [hr1,bs]
    have hrm:=h1.m
    refine ⟨_,r.1,rfl,h1.iv hi,rfl,?_⟩
    show Gd F p r.1 r.2.Server.MTU
    rw [hrm]
    rcases h2 with h2 | h2
    · exact gd_er F h2 hr hm0 hF
    · rw [h2]
      exact⟨don_ans F (.inr rfl) hm0 (by omega),.inr (by rw [c8']; rfl)⟩
  · exfalso
    simp only [Bool.or_eq_true,beq_iff_eq,not_or] at c1 c2 c3 c4 c5 c6 c7 c8
    unfold rq at hr
    simp only [Bool.or_eq_true,beq_iff_eq] at hr
    omega
theorem f_handle (F:Nat) {s:Tx8} {n:Nat} (hI:Iv s n) (hn:n≤900) {p:Tx3} (hp:POk p) (hv:p.Value.length≤512) (hmt:p.Kind=2→23≤p.MTU) (hpr:p.Kind=22→p.Handle≠0∧0≤p.Offset∧p.Offset≤65535∧(p.Value.length:Int)+5≤s.MTU) (hF:1000000020<F) :
    ∃r,ql F s p 0=some r∧Iv r.1 (n+1)∧(rq p.Kind=true→∃a,r.2.1=[a]∧Gd F p a r.1.MTU)∧(rq p.Kind=false→r.2.1=[]):=by
  have hup:=hI.kp.iv hI
  have hwt:Iv { s with Wait:=false } (n+1):=⟨⟨hup.i.d,hup.i.a,hup.i.sb,hup.i.q,hup.i.qv,hup.i.o,hup.i.ov⟩,hup.p,hup.z,hup.m0,hup.m1,hup.x0,hup.x1,hup.r,hup.sv,hup.qs⟩
  obtain⟨w,hw,hw1,_⟩:=f_write F (x:=Txa.mk s []) hI hn hp hv hF
  unfold ql
  rw [uof F s (hI.i.sv (by omega)) (by omega),bs]
  unfold q2k
  simp only [bs]
  by_cases hc:(((p.Kind == 10)||(p.Kind == 12))||((p.Kind == 2)||((p.Kind == 4)||((p.Kind == 8)||((p.Kind == 16)||((p.Kind == 18)||((p.Kind == 22)||(p.Kind == 24))))))))=true
  · have hrq:rq p.Kind=true:=by
      unfold rq
      simp only [Bool.or_eq_true,beq_iff_eq] at hc ⊢
      omega
    have h30:(p.Kind == 30)=false∧(p.Kind == 82)=false:=by
      simp only [Bool.or_eq_true,beq_iff_eq] at hc
      constructor
      · exact beq_false_of_ne (by omega)
      · exact beq_false_of_ne (by omega)
    rw [if_pos hc,h30.1,if_neg (by decide),h30.2,Bool.false_and,if_neg (by decide),hI.r,if_neg (by decide)]
    obtain⟨r,a,r1,r2,r3,r4⟩:=f_j2 F hI hn hp hv hmt hpr hrq hF s.Aware
    exact⟨r,r1,r2,fun _=>⟨a,r3,r4⟩,fun h=>by rw [hrq] at h; cases h⟩
  · have hrq:rq p.Kind=false:=by
      rw [← Bool.not_eq_true]
      intro h
      unfold rq at h
      simp only [Bool.or_eq_true,beq_iff_eq,not_or] at hc h
      omega
    have hno:∀q:List Tx3,rq p.Kind=true→∃a,q=[a]∧Gd F p a 0:=fun q h=>by rw [hrq] at h; cases h
    rw [if_neg hc]
    by_cases c1:(p.Kind == 30)=true
    · rw [if_pos c1]
      exact⟨_,rfl,hwt,(fun h=>by rw [hrq] at h; cases h),fun _=>rfl⟩
    rw [if_neg c1]
    split
    · rw [hw,bs]
      exact⟨_,rfl,hw1.iv hI,(fun h=>by rw [hrq] at h; cases h),fun _=>rfl⟩
    · exact⟨_,rfl,hup,(fun h=>by rw [hrq] at h; cases h),fun _=>rfl⟩
theorem inc_pw {db:List Tx1} (h:Inc db):(hs db).Pairwise (· < ·):=by
  rw [List.pairwise_iff_getElem]
  intro i j hi hj hij
  simp only [hs,List.length_map] at hi hj
  simp only [hs,List.getElem_map]
  refine inc_lt h (j - i - 1) i _ _ (gE hi) ?_
  rw [show i+(j - i - 1)+1=j from by omega]
  exact gE hj
theorem good_sv {db:List Tx1} (hg:Good db):Sv db:=by
  intro a ha hv
  obtain⟨i,hi⟩:=List.getElem?_of_mem ha
  obtain⟨_,_,_,h⟩:=hg.g i a hi
  unfold wrg at h
  by_cases h1:(((i:Int) == 0 && !isv a.fT)||(decl a.fT&&(iand .i64 a.Perms 2 != 0)))=true
  · rw [if_pos h1] at h; cases h
  · rw [if_neg h1,if_pos hv] at h
    have hd:decl a.fT=true:=by unfold decl; rw [hv]; rfl
    constructor
    · unfold decU at h
      by_cases q1:a.Value.length=2
      · omega
      · rw [if_neg q1] at h
        by_cases q2:a.Value.length<16
        · omega
        · rw [if_neg q2] at h
          by_cases q3:a.Value.length > 16
          · rw [if_pos q3] at h; exact absurd h (by decide)
          · omega
    · rw [hd,Bool.true_and] at h1
      simp only [Bool.or_eq_true,not_or] at h1
      have h2:=h1.2
      simpa using h2
theorem fits_law (db:List Tx1) (mx lv:Int) (l:List Tx3) (hdb:∀a∈db,AOk a) (hn:db.length≤140737488355328) (hp:∀p∈l,POk p):q2w FF db mx lv l=some true:=by
  have hFF:FF=1125899906842624:=rfl
  obtain⟨b,g1,g2⟩:=light_ok FF db (by omega) (by decide)
  unfold q2w
  rw [g1,bs]
  by_cases hq:((!b)||(decide ((len l) > 30)))=true
  · rw [if_pos hq,example_ok]; rfl
  rw [if_neg hq]
  simp only [Bool.or_eq_true,Bool.not_eq_true',decide_eq_true_eq,not_or,Bool.not_eq_false] at hq
  obtain⟨q1,q2⟩:=hq
  rw [lN] at q2
  obtain⟨m1,v1⟩:=g2 q1
  obtain⟨x,k1,k2⟩:=unew FF hdb mx lv false 2 (subs:=[]) (by omega) (by simp) (by omega) (by simp; omega)
  rw [k1,bs]
  rcases k2 with k2 | ⟨rfl,k3,k4,k5⟩
  · rw [if_pos (bne_iff_ne.2 k2),example_ok]; rfl
  rw [if_neg (show ¬ ((0:Int) != 0)=true by decide)]
  have hg:=rcheck_all FF db hdb (by omega) (by omega) k3
  obtain⟨hinc,_,hpos⟩:=rcheck_good FF db hdb (by omega) (by omega) k3
  have hiv:Iv (mkS db mx lv false 2 []) 100:=⟨⟨m1,fun a ha=>⟨hdb a ha,v1 a ha⟩,by simp [mkS],by simp [mkS],(fun y hy=>by cases hy),by simp [mkS],(fun y hy=>by cases hy)⟩,inc_pw hinc,(fun h hh=>by
    obtain⟨a,ha,rfl⟩:=List.mem_map.1 hh
    exact hpos a ha),(show (23:Int)≤23 by decide),(show (23:Int)≤517 by decide),k4,k5,rfl,good_sv hg,(fun y hy=>by cases hy)⟩
  obtain⟨o,o1,o2⟩:=iter_by (body:=fun s:Tx8×Int=>q2v FF l s.1 s.2) (fun s=>∃i:Nat,s.2=(i:Int)∧i≤l.length∧Iv s.1 (100+i)) (fun o=>o = .inl ()) (fun s=>l.length - s.2.toNat) (by
    rintro⟨s,q⟩ ⟨i,hx,hi,hs'⟩
    simp only at hx hs'
    subst hx
    show (∃s',q2v FF l s (i:Int)=some (.next s')∧_)∨∃o,q2v FF l s (i:Int)=some (.done o)∧_
    unfold q2v
    by_cases hin:i<l.length
    · have hx:l[i]? = some l[i]:=gE hin
      have hpk:=hp _ (gM hin)
      generalize l[i]=p at hx hpk
      have hpl:=hpk.l
      have hnext:∀c,Iv c (100+i+1)→(∃s',q55 FF (i:Int) c=some (.next s')∧(∃i:Nat,s'.2=(i:Int)∧i≤l.length∧Iv s'.1 (100+i))∧l.length - s'.2.toNat<l.length - (i:Int).toNat):=fun c hc=>
        ⟨_,rfl,⟨i+1,wN i (by omega),by omega,hc⟩,by simp only; rw [wN i (by omega)]; omega⟩
      rw [if_pos (dt (show (i:Int)<len l by rw [lN]; omega)),dN,hx,bs]
      rcases enc_some FF hpk (by omega) with ⟨e,e1,e2⟩ | ⟨hchk,c,u,e1,hu,e3⟩
      · rw [e2,bs,if_pos (by rw [Bool.or_eq_true]; exact .inl (bne_iff_ne.2 e1))]
        exact .inl (hnext s (hs'.kp.iv hs'))
      · rw [e1,bs]
        by_cases hlen:(decide ((len c) > s.MTU))=true
        · rw [if_pos (by rw [Bool.or_eq_true]; exact .inr hlen)]
          exact .inl (hnext s (hs'.kp.iv hs'))
        · rw [if_neg (by
            rw [Bool.or_eq_true,not_or]
            exact⟨(show ¬ ((0:Int) != 0)=true by decide),hlen⟩),bs]
          have hlen:=of_decide_eq_false ((Bool.not_eq_true _).mp hlen)
          rw [lN] at hlen
          obtain⟨z1,_,z3,_,z5,z6⟩:=chk0 FF hu hchk
          obtain⟨r,t1,t2,t3,t4⟩:=f_handle FF hs' (by omega) hpk z1 (by
            intro hk
            rw [hk] at hu
            have:u=Txd.mk true false false false false false true false false false false:=by injection hu with hu; exact hu.symm
            exact z3 (by rw [this])) (by
            intro hk
            have hu':=hu
            rw [hk] at hu'
            have hue:u=Txd.mk true false true false false true false false false true false:=by injection hu' with hu'; exact hu'.symm
            have hl5:=e3 (by rw [hue])
            have hl6:c.length=5+p.Value.length:=by
              rw [hl5,hue]
              simp [r1,r2,r3,r4,r5,r6,r7,r8,r9,b2]
              omega
            obtain⟨o0,o1⟩:=z5 (by rw [hue])
            exact⟨z6 (by rw [hue]) (by rw [hk]; decide),o0,o1,by omega⟩) (by omega)
          rw [t1,bs]
          unfold q6q
          rw [dN,hx,bs]
          have hra:=rans FF p.Kind
          rw [bs,hra,bs]
          cases hr:rq p.Kind with
          | false=>
            rw [t4 hr,if_neg (by decide),if_neg (by decide)]
            exact .inl (hnext _ t2)
          | true=>
            obtain⟨a,a1,⟨cc,a2,a3⟩,a4⟩:=t3 hr
            obtain⟨an,_,_⟩:=ans_rq FF hr
            rw [a1,if_neg (show ¬ ((true != ((len [a]) == 1))||decide ((len [a]) > 1))=true by simp [len]),if_pos rfl,show idx [a] 0=some a from rfl,bs,a2,bs]
            rw [if_neg (by
              rw [Bool.or_eq_true,not_or]
              exact⟨(show ¬ ((0:Int) != 0)=true by decide),df (by show ¬ len cc > r.1.MTU; rw [lN]; omega)⟩)]
            unfold q4j q56
            by_cases ha1:(a.Kind != 1)=true
            · rw [if_pos ha1,bs,an,bs]
              have hak:a.Kind=p.Kind+1:=by
                rcases a4 with h | h
                · exact absurd h (bne_iff_ne.1 ha1)
                · exact h
              rw [if_neg (by rw [hak]; simp)]
              exact .inl (hnext _ t2)
            · rw [if_neg ha1,if_neg (by decide)]
              exact .inl (hnext _ t2)
    · rw [if_neg (df (show ¬ (i:Int)<len l by rw [lN]; omega))]
      exact .inr ⟨_,rfl,rfl⟩) FF (mkS db mx lv false 2 [],0) ⟨0,rfl,by omega,hiv⟩ (by simp only; omega)
  simp only
  rw [o1,bs,o2]
  show q54 FF=_
  unfold q54
  rw [example_ok]; rfl
end V
end Go.Proofs.YtoahakdkgefgiaaGreat
