/- Numbers and bytes of chapter 43: Put and Num of the referenc -/
import Derived.Test.YtoahakdkgefgiaaGreatLoop
import Derived.Test.YtoahakdkgefgiaaGreatFn
import Derived.KernelRfl
namespace Go.Proofs.YtoahakdkgefgiaaGreat
namespace V
def FF:Nat:=1125899906842624
def Byte (x:Int):Prop:=0≤x∧x<256
def leb:Nat→Int→List Int
  | 0,_=>[]
  | k+1,n=>n % 256::leb k (n / 256)
def num:List Int→Int
  | []=>0
  | b::r=>b+256 * num r
theorem pow_succ256 (k:Nat):(256:Int) ^ (k+1)=256 * 256 ^ k:=by rw [Int.pow_succ,Int.mul_comm]
theorem num_nonneg:∀{l:List Int},(∀x∈l,Byte x)→0≤num l
  | [],_=>by simp [num]
  | b::r,h=>by
    have h1:=(h b (by simp)).1
    have h2:=num_nonneg (l:=r) fun x hx=>h x (by simp [hx])
    simp only [num]; omega
theorem num_lt:∀{l:List Int},(∀x∈l,Byte x)→num l<256 ^ l.length
  | [],_=>by simp [num]
  | b::r,h=>by
    have h1:=(h b (by simp)).2
    have h2:=num_lt (l:=r) fun x hx=>h x (by simp [hx])
    simp only [num,List.length_cons,pow_succ256]; omega
theorem num_append:∀(l m:List Int),num (l++m)=num l+256 ^ l.length * num m
  | [],m=>by simp [num]
  | b::r,m=>by
    simp only [List.cons_append,num,List.length_cons,pow_succ256,num_append r m,Int.mul_add,Int.mul_assoc]
    omega
theorem app_cat {l m:List Int} (h:l.length+m.length≤140737488355328):app 1 l m=some (l++m):=by
  rw [app_small (by omega) (by omega)]
theorem rnum_ok (F:Nat) (b m:List Int) (at_:Nat) (hF:m.length<F) (hb:∀x∈m,Byte x) (hm:m.length≤8) (hat:at_≤1000000) (h:∀i,i<m.length→b[at_+i]? = m[i]?):qh F b at_ (m.length:Int)=some (num m):=by
  have key:∀(k f:Nat) (r:List Int),r.length+k=m.length→(∀i,i<r.length→m[k+i]? = r[i]?)→k<f→iter (fun s=>q1v F b at_ s.1 s.2) f (num r,(k:Int) - 1)=some (num (m.take k++r)):=by
    intro k
    induction k with
    | zero=>
      intro f r hr _ hf
      cases f with
      | zero=>omega
      | succ f=>
        rw [iter_stop (o:=num r) (by unfold q1v; rw [if_neg (by simp)])]
        simp
    | succ k ih=>
      intro f r hr hri hf
      cases f with
      | zero=>omega
      | succ f=>
        have hk:k<m.length:=by omega
        have hx:m[k]? = some m[k]:=List.getElem?_eq_getElem hk
        have hbx:=hb m[k] (List.getElem_mem hk)
        have hrb:∀x∈r,Byte x:=by
          intro x hx
          obtain⟨i,hi⟩:=List.getElem?_of_mem hx
          have hil:=(List.getElem?_eq_some_iff.1 hi).1
          rw [← hri i hil] at hi
          exact hb x (List.mem_of_getElem? hi)
        have hn0:=num_nonneg hrb
        have hn1:=num_lt hrb
        have hpow:(256:Int) ^ r.length≤256 ^ 7:=by
          have h2:(256:Nat) ^ r.length≤256 ^ 7:=Nat.pow_le_pow_right (by decide) (by omega)
          have h3:((256 ^ r.length:Nat):Int)≤((256 ^ 7:Nat):Int):=Int.ofNat_le.2 h2
          rw [Int.natCast_pow,Int.natCast_pow] at h3
          exact h3
        have hidx:idx b (w64 ((at_:Int)+((k+1:Nat) - 1:Int)))=some m[k]:=by
          rw [show (at_:Int)+(((k+1:Nat):Int) - 1)=((at_+k:Nat):Int) from by omega,w64_id (by omega) (by omega),dN,h k hk,hx]
        have hstep:q1v F b at_ (num r) (((k+1:Nat):Int) - 1)=some (.next (num (m[k]::r),(k:Int) - 1)):=by
          unfold q1v
          rw [if_pos (by simp),hidx]
          simp only [Option.bind_some,num]
          obtain⟨hb0,hb1⟩:=hbx
          rw [wu64_id (x:=num r * 256) (by omega) (by omega),wu64_id (x:=m[k]) (by omega) (by omega),wu64_id (by omega) (by omega),w64_id (by omega) (by omega)]
          congr 3 <;> omega
        rw [iter_step hstep,ih f (m[k]::r) (by simp; omega) (by
          intro i hi
          cases i with
          | zero=>simp
          | succ i=>
            have:=hri i (by simp at hi; omega)
            rw [show k+(i+1)=k+1+i from by omega]
            simpa using this) (by omega)]
        rw [List.take_add_one,hx,List.append_assoc]
        rfl
  unfold qh
  rw [w64_id (by omega) (by omega)]
  have:=key m.length F [] (by simp) (by simp) hF
  simp only [num,List.take_length,List.append_nil] at this
  rw [this]
  rfl
theorem same_refl (F:Nat) (l:List Int):qm F l l=some true:=by simp [qm]
theorem join_step (F:Nat) (ps:List (List Int)) (l:List Int) (i:Nat) (x:List Int) (hx:ps[i]? = some x) (hl:l.length+x.length≤140737488355328) (hi:ps.length≤9000000000000000000):qu F ps l i=some (.next (l++x,((i+1:Nat):Int))):=by
  have hlt:i<ps.length:=(List.getElem?_eq_some_iff.1 hx).1
  unfold qu
  have hd:decide ((i:Int)<len ps)=true:=by simp [len]; omega
  rw [if_pos hd,dN,hx]
  simp only [Option.bind_some]
  rw [app_cat hl]
  simp only [Option.bind_some]
  rw [wN i (by omega)]
theorem join_two (F:Nat) (a b:List Int) (hF:2<F) (h:a.length+b.length≤140737488355328):q6 F [a,b]=some (a++b):=by
  unfold q6
  obtain⟨F',rfl⟩:∃F',F=F'+1+1+1:=⟨F - 3,by omega⟩
  have h1:qu (F'+1+1+1) [a,b] [] 0=some (.next (a,1)):=by simpa using join_step (F'+1+1+1) [a,b] [] 0 a rfl (by simp; omega) (by simp)
  have h2:qu (F'+1+1+1) [a,b] a 1=some (.next (a++b,2)):=by simpa using join_step (F'+1+1+1) [a,b] a 1 b rfl (by omega) (by simp)
  rw [iter_step h1,iter_step h2,iter_stop (o:=a++b) (by unfold qu; rw [if_neg (by simp [len])])]
  rfl
theorem join_one (F:Nat) (a:List Int) (hF:1<F) (h:a.length≤140737488355328):q6 F [a]=some a:=by
  unfold q6
  obtain⟨F',rfl⟩:∃F',F=F'+1+1:=⟨F - 2,by omega⟩
  have h1:qu (F'+1+1) [a] [] 0=some (.next (a,1)):=by simpa using join_step (F'+1+1) [a] [] 0 a rfl (by simp; omega) (by simp)
  rw [iter_step h1,iter_stop (o:=a) (by unfold qu; rw [if_neg (by simp [len])])]
  rfl
theorem nat_or_add (a b i:Nat) (ha:a<2 ^ i):a ||| (b * 2 ^ i)=a+b * 2 ^ i:=by
  have h:=Nat.shiftLeft_add_eq_or_of_lt ha b
  rw [Nat.shiftLeft_eq] at h
  rw [Nat.or_comm,← h,Nat.add_comm]
theorem pow256 (i:Nat):(256:Int) ^ i=((2 ^ (8 * i):Nat):Int):=by
  rw [Nat.pow_mul,show (2:Nat) ^ 8=256 from by decide]
  exact (congrArg (fun z:Int=>z ^ i) (rfl:(256:Int)=((256:Nat):Int))).trans (Int.natCast_pow 256 i).symm
theorem ior_add (a b:Int) (i:Nat) (hi:i<8) (h0:0≤a) (h1:a<256 ^ i) (h2:Byte b):ior .u64 a (b * 256 ^ i)=a+b * 256 ^ i:=by
  obtain⟨b0,b1⟩:=h2
  obtain⟨a,rfl⟩:=Int.eq_ofNat_of_zero_le h0
  obtain⟨b,rfl⟩:=Int.eq_ofNat_of_zero_le b0
  have hp:=pow256 i
  rw [hp] at h1 ⊢
  have ha:a<2 ^ (8 * i):=by exact_mod_cast h1
  have hb:b<256:=by omega
  have hle:(2:Nat) ^ (8 * i)≤2 ^ 56:=Nat.pow_le_pow_right (by decide) (by omega)
  have hbl:b * 2 ^ (8 * i)<2 ^ 64:=by
    have:b * 2 ^ (8 * i)≤255 * 2 ^ 56:=Nat.mul_le_mul (by omega) hle
    omega
  have hs:a+b * 2 ^ (8 * i)<2 ^ 64:=by
    have:(b+1) * 2 ^ (8 * i)≤256 * 2 ^ 56:=Nat.mul_le_mul (by omega) hle
    rw [Nat.add_mul] at this
    omega
  unfold ior
  have e:((b:Int) * ((2 ^ (8 * i):Nat):Int))=((b * 2 ^ (8 * i):Nat):Int):=by rw [Int.natCast_mul]
  have e2:(BitVec.ofInt IntKind.u64.bits (a:Int) ||| BitVec.ofInt IntKind.u64.bits ((b:Int) * ((2 ^ (8 * i):Nat):Int))).toNat=a+b * 2 ^ (8 * i):=by
    rw [e,BitVec.toNat_or]
    show (BitVec.ofInt 64 (a:Int)).toNat ||| (BitVec.ofInt 64 ((b * 2 ^ (8 * i):Nat):Int)).toNat=_
    rw [BitVec.toNat_ofInt,BitVec.toNat_ofInt]
    rw [show (((a:Nat):Int) % ((2 ^ 64:Nat):Int)).toNat=a from by rw [← Int.natCast_emod,Int.toNat_natCast,Nat.mod_eq_of_lt (by omega)]]
    rw [show (((b * 2 ^ (8 * i):Nat):Int) % ((2 ^ 64:Nat):Int)).toNat=b * 2 ^ (8 * i) from by rw [← Int.natCast_emod,Int.toNat_natCast,Nat.mod_eq_of_lt hbl]]
    exact nat_or_add a b (8 * i) ha
  rw [e2,wrap_u64]
  unfold wu64
  rw [Int.natCast_add,Int.natCast_mul]
  rw [show ((a:Int)+(b:Int) * ((2 ^ (8 * i):Nat):Int))=((a+b * 2 ^ (8 * i):Nat):Int) from by rw [Int.natCast_add,Int.natCast_mul]]
  omega
theorem pow2_nat (i:Nat):(2:Int) ^ (8 * i)=((2 ^ (8 * i):Nat):Int):=(congrArg (fun z:Int=>z ^ (8 * i)) (rfl:(2:Int)=((2:Nat):Int))).trans (Int.natCast_pow 2 (8 * i)).symm
theorem shl_le (x i:Nat) (h1:(x:Int)<256) (hi:i<8):x * 2 ^ (8 * i)≤255 * 2 ^ 56:=by
  have hle:(2:Nat) ^ (8 * i)≤2 ^ 56:=Nat.pow_le_pow_right (by decide) (by omega)
  exact Nat.mul_le_mul (by omega) hle
theorem wu64_le (q:Nat) (hb:q≤255 * 2 ^ 56):wu64 (q:Int)=q:=by
  rw [wu64_id (by omega) (by omega)]
theorem shl_core (x i:Nat) (hi:i<8):ishl .u64 (x:Int) (8 * i)=some (IntKind.u64.wrap ((x:Int) * 2 ^ (8 * i))):=by
  unfold ishl
  rw [if_neg (by omega)]
  have e1:min (8 * (i:Int)).toNat IntKind.u64.bits=8 * i:=by
    show min (8 * (i:Int)).toNat 64=8 * i
    omega
  rw [e1]
theorem shl_bytes {x:Int} (hx:Byte x) (i:Nat) (hi:i<8):ishl .u64 (wu64 x) (w64 (8 * i))=some (x * 256 ^ i):=by
  obtain⟨h0,h1⟩:=hx
  obtain⟨x,rfl⟩:=Int.eq_ofNat_of_zero_le h0
  have e1:w64 (8 * (i:Int))=8 * i:=w64_id (by omega) (by omega)
  have e2:wu64 (x:Int)=x:=wu64_id (by omega) (by omega)
  have e3:=wu64_le _ (shl_le x i h1 hi)
  rw [Int.natCast_mul,← pow2_nat] at e3
  have e4:(256:Int) ^ i=2 ^ (8 * i):=(pow256 i).trans (pow2_nat i).symm
  rw [e1,e2,shl_core x i hi,wrap_u64,e3,e4]
end V
end Go.Proofs.YtoahakdkgefgiaaGreat

namespace Go.Proofs.YtoahakdkgefgiaaGreat
namespace V
theorem iter_find {S O α:Type} {body:S→Option (Out S O)} (st:Nat→S) {l:List α} {p:α→Bool} {g:Nat→O} {e:O} (h:∀(i:Nat) x,l[i]? = some x→body (st i)=some (if p x=true then .done (g i) else .next (st (i+1)))) (he:body (st l.length)=some (.done e)) :
    ∀(F i:Nat),i≤l.length→l.length - i<F→iter body F (st i)=some (match (l.drop i).findIdx? p with | some k=>g (i+k) | none=>e)
  | 0,i,_,hF=>by omega
  | F+1,i,hi,hF=>by
    by_cases hin:i<l.length
    · have hx:l[i]? = some l[i]:=List.getElem?_eq_getElem hin
      have hdr:l.drop i=l[i]::l.drop (i+1):=List.drop_eq_getElem_cons hin
      have hb:=h i _ hx
      by_cases hp:p l[i]=true
      · rw [if_pos hp] at hb
        rw [iter_stop hb,hdr,List.findIdx?_cons,hp]
        rfl
      · rw [if_neg hp] at hb
        rw [iter_step hb,iter_find st h he F (i+1) hin (by omega),hdr,List.findIdx?_cons,if_neg hp]
        cases (l.drop (i+1)).findIdx? p with
        | none=>rfl
        | some k=>simp only [Option.map_some]; rw [show i+1+k=i+(k+1) from by omega]
    · have:i=l.length:=by omega
      subst this
      rw [iter_stop he,List.drop_length]
      rfl
theorem df {p:Prop} [Decidable p] (h:¬ p):¬ decide p=true:=by simpa using h
def sht (n:Int):Tx0:=Tx0.mk (n * 4294967296+4096) 9223372588214596859
structure UOk (u:Tx0):Prop where
  h0:0≤u.High
  h1:u.High<18446744073709551616
  l0:0≤u.Low
  l1:u.Low<18446744073709551616
theorem sht_ok {n:Int} (h0:0≤n) (h1:n<65536):UOk (sht n):=⟨by simp only [sht]; omega,by simp only [sht]; omega,by simp only [sht]; omega,by simp only [sht]; omega⟩
theorem rshort (F:Nat) (n:Int) (h0:0≤n) (h1:n<65536):qb F n=some (sht n):=by
  unfold qb sht
  rw [wu64_id (x:=n) (by omega) (by omega),wu64_id (x:=n * 4294967296) (by omega) (by omega),wu64_id (by omega) (by omega)]
theorem ofInt_nat (w a:Nat) (h:a<2 ^ w):(BitVec.ofInt w (a:Int)).toNat=a:=by
  rw [BitVec.toNat_ofInt,← Int.natCast_emod,Int.toNat_natCast,Nat.mod_eq_of_lt h]
theorem ior64 (a b:Nat) (ha:a<2 ^ 64) (hb:b<2 ^ 64):ior .u64 (a:Int) (b:Int)=((a ||| b:Nat):Int):=by
  have h:=Nat.or_lt_two_pow ha hb
  unfold ior
  have e:(BitVec.ofInt IntKind.u64.bits (a:Int) ||| BitVec.ofInt IntKind.u64.bits (b:Int)).toNat=a ||| b:=by
    rw [BitVec.toNat_or]
    show (BitVec.ofInt 64 (a:Int)).toNat ||| (BitVec.ofInt 64 (b:Int)).toNat=_
    rw [ofInt_nat 64 a ha,ofInt_nat 64 b hb]
  rw [e,wrap_u64,wu64_id (by omega) (by omega)]
theorem ior16 (a b:Nat) (ha:a<2 ^ 16) (hb:b<2 ^ 16):ior .u16 (a:Int) (b:Int)=((a ||| b:Nat):Int):=by
  have h:=Nat.or_lt_two_pow ha hb
  unfold ior
  have e:(BitVec.ofInt IntKind.u16.bits (a:Int) ||| BitVec.ofInt IntKind.u16.bits (b:Int)).toNat=a ||| b:=by
    rw [BitVec.toNat_or]
    show (BitVec.ofInt 16 (a:Int)).toNat ||| (BitVec.ofInt 16 (b:Int)).toNat=_
    rw [ofInt_nat 16 a ha,ofInt_nat 16 b hb]
  rw [e,wrap_u16,wu16_id (by omega) (by omega)]
theorem ushort (F:Nat) (n:Int) (h0:0≤n) (h1:n<65536):q1e F n=some (sht n):=by
  unfold q1e sht
  obtain⟨n,rfl⟩:=Int.eq_ofNat_of_zero_le h0
  have e:shlp .u64 (wu64 (n:Int)) 32=((n * 2 ^ 32:Nat):Int):=by
    unfold shlp
    rw [wu64_id (by omega) (by omega),wrap_u64,show (n:Int) * 2 ^ 32=((n * 2 ^ 32:Nat):Int) from by rw [Int.natCast_mul]; rfl,wu64_id (by omega) (by omega)]
  rw [e,show (4096:Int)=((4096:Nat):Int) from rfl,ior64 _ _ (by omega) (by omega),Nat.or_comm,nat_or_add _ _ 32 (by decide)]
  congr 2
  omega
theorem word16 {x y:Int} (hx:Byte x) (hy:Byte y):ior .u16 (wu16 x) (shlp .u16 (wu16 y) 8)=x+256 * y:=by
  obtain⟨x0,x1⟩:=hx
  obtain⟨y0,y1⟩:=hy
  obtain⟨x,rfl⟩:=Int.eq_ofNat_of_zero_le x0
  obtain⟨y,rfl⟩:=Int.eq_ofNat_of_zero_le y0
  have e:shlp .u16 (wu16 (y:Int)) 8=((y * 2 ^ 8:Nat):Int):=by
    unfold shlp
    rw [wu16_id (by omega) (by omega),wrap_u16,show (y:Int) * 2 ^ 8=((y * 2 ^ 8:Nat):Int) from by rw [Int.natCast_mul]; rfl,wu16_id (by omega) (by omega)]
  rw [e,wu16_id (by omega) (by omega),ior16 _ _ (by omega) (by omega),nat_or_add _ _ 8 (by omega)]
  omega
theorem shrp_eq (x:Int) (n:Nat):shrp x n=x / 2 ^ n:=by
  unfold shrp
  rw [Int.fdiv_eq_ediv_of_nonneg _ (Int.le_of_lt (Int.pow_pos (by decide)))]
theorem ubytes (F:Nat) (u:Tx0):q10 F u=some (u.Low % 256,u.Low / 256 % 256,u.Low / 65536 % 256,u.Low / 16777216 % 256,u.Low / 4294967296 % 256,u.Low / 1099511627776 % 256,u.Low / 281474976710656 % 256,u.Low / 72057594037927936 % 256,u.High % 256,u.High / 256 % 256,u.High / 65536 % 256,u.High / 16777216 % 256,u.High / 4294967296 % 256,u.High / 1099511627776 % 256,u.High / 281474976710656 % 256,u.High / 72057594037927936 % 256):=by
  simp only [q10,q4b,q4a,q49,q48,q47,q46,q45,q44,q43,shrp_eq,wu8,Int.reducePow,Int.ediv_one]
def numb (u:Tx0):Int×Bool:=if u.Low=9223372588214596859∧u.High % 4294967296=4096∧u.High / 4294967296<65536 then (u.High / 4294967296,true) else (0,false)
theorem unumber (F:Nat) {u:Tx0} (hu:UOk u):q1b F u=some (numb u):=by
  obtain⟨h0,h1,l0,l1⟩:=hu
  unfold q1b
  rw [ubytes,Option.bind_some,show q10 F (Tx0.mk 4096 9223372588214596859)=some (251,52,155,95,128,0,0,128,0,16,0,0,0,0,0,0) from by rw [ubytes]; rfl,Option.bind_some]
  unfold q4c numb
  by_cases h:u.Low=9223372588214596859∧u.High % 4294967296=4096∧u.High / 4294967296<65536
  · rw [if_pos h]
    obtain⟨h2,h3,h4⟩:=h
    rw [if_neg (by
      rw [Bool.not_eq_true']
      simp only [Bool.not_eq_false,Bool.and_eq_true,beq_iff_eq]
      refine ⟨by omega,by omega,by omega,by omega,by omega,by omega,by omega,by omega,by omega,by omega,by omega,by omega,trivial,trivial,by omega,by omega⟩)]
    simp only
    rw [word16 ⟨by omega,by omega⟩ ⟨by omega,by omega⟩]
    congr 2
    omega
  · rw [if_neg h,if_pos (by
      rw [Bool.not_eq_true',Bool.eq_false_iff]
      intro hc
      simp only [Bool.and_eq_true,beq_iff_eq] at hc
      exact h (by omega))]
theorem rnumber (F:Nat) {u:Tx0} (hu:UOk u):q16 F u=some (numb u):=by
  obtain⟨h0,h1,l0,l1⟩:=hu
  unfold q16 numb
  have e:quop .u64 u.High 4294967296=u.High / 4294967296:=by
    unfold quop
    rw [Int.tdiv_eq_ediv_of_nonneg h0,wrap_u64,wu64_id (by omega) (by omega)]
  rw [e]
  by_cases hb:u.High / 4294967296 > 65535
  · rw [if_pos (by simpa using hb),if_neg (by omega)]
    rfl
  · rw [if_neg (by simpa using hb),wu16_id (by omega) (by omega),rshort _ _ (by omega) (by omega),Option.bind_some]
    unfold q33 sht
    simp only
    by_cases h:u.Low=9223372588214596859∧u.High % 4294967296=4096∧u.High / 4294967296<65536
    · rw [if_pos h,if_neg (by
        rw [Bool.not_eq_true']
        simp only [Bool.not_eq_false,Bool.and_eq_true,beq_iff_eq]
        omega),e,wu16_id (by omega) (by omega)]
    · rw [if_neg h,if_pos (by
        rw [Bool.not_eq_true',Bool.eq_false_iff]
        intro hc
        simp only [Bool.and_eq_true,beq_iff_eq] at hc
        exact h (by omega))]
def isN (u:Tx0) (n:Int):Bool:=u.High == n * 4294967296+4096&&u.Low == 9223372588214596859
theorem isN_sh {m n:Int}:isN (sht m) n=(m == n):=by
  unfold isN sht
  simp only
  by_cases h:m=n
  · subst h; simp
  · rw [beq_false_of_ne h,beq_false_of_ne (by omega)]; rfl
theorem isN_eq {u:Tx0} {n:Int} (h:isN u n=true):u=sht n:=by
  unfold isN at h
  simp only [Bool.and_eq_true,beq_iff_eq] at h
  cases u
  simp only [sht] at h ⊢
  rw [h.1,h.2]
theorem isN_num {u:Tx0} {n:Int} (h0:0≤n) (h1:n<65536):((numb u).2&&(n == (numb u).1))=isN u n:=by
  unfold numb isN
  by_cases h:u.Low=9223372588214596859∧u.High % 4294967296=4096∧u.High / 4294967296<65536
  · rw [if_pos h]
    obtain⟨h2,h3,h4⟩:=h
    by_cases hn:n=u.High / 4294967296
    · simp only [Bool.true_and]
      rw [show (n == u.High / 4294967296)=true from by simpa using hn,show (u.High == n * 4294967296+4096)=true from by simp; omega,show (u.Low == 9223372588214596859)=true from by simpa using h2]
      rfl
    · simp only [Bool.true_and]
      rw [beq_false_of_ne hn,beq_false_of_ne (by omega)]
      rfl
  · rw [if_neg h]
    simp only [Bool.false_and]
    symm
    rw [Bool.eq_false_iff]
    intro hc
    simp only [Bool.and_eq_true,beq_iff_eq] at hc
    exact h (by omega)
theorem index_ok (F:Nat) (l:List Int) (v:Int) (hF:l.length<F) (hl:l.length≤1000):q2e F l v=some (match l.findIdx? (fun x=>v == x) with | some k=>(k:Int) | none=>-1):=by
  unfold q2e
  have:=iter_find (body:=fun s=>q1c F l v s) (fun i=>(i:Int)) (l:=l) (p:=fun x=>v == x) (g:=fun k=>Sum.inr (k:Int)) (e:=Sum.inl ()) (by
    intro i x hx
    have hi:=(List.getElem?_eq_some_iff.1 hx).1
    show q1c F l v i=_
    unfold q1c
    rw [if_pos (by simp [len]; omega),dN,hx,Option.bind_some,wN i (by omega)]
    split <;> rfl) (by
    show q1c F l v _=_
    unfold q1c
    rw [if_neg (by simp [len])]) F 0 (by omega) (by omega)
  rw [show ((0:Nat):Int)=0 from rfl] at this
  rw [this,Option.bind_some,List.drop_zero]
  cases l.findIdx? (fun x=>v == x) with
  | none=>rfl
  | some k=>simp
theorem contains_ok (F:Nat) (l:List Int) (v:Int) (hF:l.length<F) (hl:l.length≤1000):q1d F l v=some (l.any fun x=>v == x):=by
  unfold q1d
  rw [index_ok F l v hF hl,Option.bind_some]
  congr 1
  cases h:l.findIdx? (fun x=>v == x) with
  | none=>
    rw [List.findIdx?_eq_none_iff] at h
    symm
    simp only [decide_eq_false (show ¬ ((-1:Int)≥0) by omega)]
    rw [List.any_eq_false]
    intro x hx
    rw [h x hx]
    decide
  | some k=>
    have:=List.findIdx?_eq_some_iff_getElem.1 h
    obtain⟨hk,hp,_⟩:=this
    symm
    rw [decide_eq_true (show (k:Int)≥0 by omega),List.any_eq_true]
    exact⟨_,List.getElem_mem hk,hp⟩
theorem is_ok (F:Nat) {u:Tx0} (hu:UOk u) (l:List Int) (hF:l.length<F) (hl:l.length≤1000) (hb:∀n∈l,0≤n∧n<65536):qe F u l=some (l.any (isN u)):=by
  unfold qe
  rw [unumber F hu,Option.bind_some]
  have e:((numb u).2&&l.any fun x=>(numb u).1 == x)=l.any (isN u):=by
    induction l with
    | nil=>simp
    | cons n r ih=>
      have h1:=isN_num (u:=u) (hb n (by simp)).1 (hb n (by simp)).2
      rw [List.any_cons,List.any_cons,← h1,← ih (by simp at hF; omega) (by simp at hl; omega) fun m hm=>hb m (by simp [hm])]
      rw [Bool.and_or_distrib_left,show ((numb u).1 == n)=(n == (numb u).1) from by rw [Bool.eq_iff_iff,beq_iff_eq,beq_iff_eq]; exact eq_comm]
  by_cases h:(numb u).2=true
  · rw [if_pos h,contains_ok F l _ hF hl,Option.bind_some,Option.bind_some,← e,h,Bool.true_and]
  · rw [if_neg h,Option.bind_some,← e,(Bool.not_eq_true _).mp h,Bool.false_and]
def isv (u:Tx0):Bool:=isN u 10240||isN u 10241
def decl (u:Tx0):Bool:=isv u||(isN u 10242||isN u 10243)
def resv (u:Tx0):Bool:=decl u||isN u 10498
theorem is1 (F:Nat) {u:Tx0} (hu:UOk u) (n:Int) (hF:10<F) (h0:0≤n) (h1:n<65536):qe F u [n]=some (isN u n):=by
  rw [is_ok F hu [n] (by simp; omega) (by simp) (by simp; omega)]
  simp
theorem service_ok (F:Nat) {u:Tx0} (hu:UOk u) (hF:10<F):qk F u=some (isv u):=by
  unfold qk isv
  rw [is_ok F hu [10240,10241] (by simp; omega) (by simp) (by intro n hn; simp at hn; omega)]
  simp
theorem declaration_ok (F:Nat) {u:Tx0} (hu:UOk u) (hF:10<F):qt F u=some (decl u):=by
  unfold qt decl
  rw [service_ok F hu hF,Option.bind_some,is_ok F hu [10242,10243] (by simp; omega) (by simp) (by intro n hn; simp at hn; omega)]
  cases isv u <;> simp
theorem reserved_ok (F:Nat) {u:Tx0} (hu:UOk u) (hF:10<F):q2g F u=some (resv u):=by
  unfold q2g resv
  rw [declaration_ok F hu hF,Option.bind_some,is1 F hu 10498 hF (by decide) (by decide)]
  cases decl u <;> simp
theorem rIs (F:Nat) (u:Tx0) (n:Int) (h0:0≤n) (h1:n<65536):qc F u n=some (isN u n):=by
  unfold qc
  rw [rshort F n h0 h1]
  rfl
theorem rIsService (F:Nat) (a:Tx1):qs F a=some (isv a.fT):=by
  unfold qs isv
  rw [rIs F _ _ (by decide) (by decide),rIs F _ _ (by decide) (by decide),Option.bind_some]
  cases isN a.fT 10240 <;> simp
theorem rIsChar (F:Nat) (a:Tx1):q18 F a=some (isN a.fT 10243):=by
  unfold q18
  rw [rIs F _ _ (by decide) (by decide),Option.bind_some]
theorem rdeclares (F:Nat) (u:Tx0):q15 F u=some (decl u):=by
  unfold q15 decl isv
  simp only [rIs F u 10240 (by decide) (by decide),rIs F u 10241 (by decide) (by decide),rIs F u 10242 (by decide) (by decide),rIs F u 10243 (by decide) (by decide),Option.bind_some]
  cases isN u 10240 <;> cases isN u 10241 <;> cases isN u 10242 <;> simp
theorem rkept (F:Nat) (u:Tx0):q19 F u=some (resv u):=by
  unfold q19 resv
  rw [rdeclares,Option.bind_some,rIs F _ _ (by decide) (by decide)]
  cases decl u <;> simp
def UZ:Tx0:=Tx0.mk 0 0
def decU (b:List Int):Tx0×Int:=
  if b.length=2 then (sht (num b),0)
  else if b.length<16 then (UZ,3)
  else if b.length > 16 then (UZ,2)
  else if (numb (Tx0.mk (num (b.drop 8)) (num (b.take 8)))).2=true then (UZ,2)
  else (Tx0.mk (num (b.drop 8)) (num (b.take 8)),0)
theorem num2 (x y:Int):num [x,y]=x+256 * y:=by simp [num]
theorem uok16 {b:List Int} (hb:∀x∈b,Byte x) (hl:b.length=16):UOk (Tx0.mk (num (b.drop 8)) (num (b.take 8))):=by
  have h1:∀x∈b.drop 8,Byte x:=fun x hx=>hb x (List.mem_of_mem_drop hx)
  have h2:∀x∈b.take 8,Byte x:=fun x hx=>hb x (List.mem_of_mem_take hx)
  have h3:=num_lt h1
  have h4:=num_lt h2
  rw [show (b.drop 8).length=8 from by simp [hl]] at h3
  rw [show (b.take 8).length=8 from by simp [hl]] at h4
  exact⟨num_nonneg h1,h3,num_nonneg h2,h4⟩
theorem decU_ok {b:List Int} (hb:∀x∈b,Byte x):UOk (decU b).1:=by
  have hz:UOk UZ:=⟨by decide,by decide,by decide,by decide⟩
  unfold decU
  split
  · rename_i h
    match b,h,hb with
    | [x,y],_,hb=>
      have hx:=hb x (by simp)
      have hy:=hb y (by simp)
      obtain⟨x0,x1⟩:=hx
      obtain⟨y0,y1⟩:=hy
      rw [num2]
      exact sht_ok (by omega) (by omega)
  · split
    · exact hz
    · split
      · exact hz
      · split
        · exact hz
        · exact uok16 hb (by omega)
theorem rdecode (F:Nat) {b:List Int} (hb:∀x∈b,Byte x) (hF:20<F):q17 F b=some (decU b):=by
  unfold q17 decU
  by_cases h2:b.length=2
  · rw [if_pos (show (len b == 2)=true from by simp [len]; omega),if_pos h2]
    match b,h2,hb with
    | [x,y],_,hb=>
      have h:=rnum_ok F [x,y] [x,y] 0 (by simp; omega) hb (by simp) (by omega) (by simp)
      have hx:=hb x (by simp)
      have hy:=hb y (by simp)
      obtain⟨x0,x1⟩:=hx
      obtain⟨y0,y1⟩:=hy
      have h':qh F [x,y] 0 2=some (num [x,y]):=h
      rw [h',Option.bind_some]
      rw [num2,wu16_id (by omega) (by omega),rshort F _ (by omega) (by omega),Option.bind_some]
  · rw [if_neg (show ¬ (len b == 2)=true from by simp [len]; omega),if_neg h2]
    by_cases h16:b.length<16
    · rw [if_pos (decide_eq_true (show len b<16 by rw [lN]; omega)),if_pos h16]; rfl
    · rw [if_neg (df (show ¬ len b<16 by rw [lN]; omega)),if_neg h16]
      by_cases h17:b.length > 16
      · rw [if_pos (decide_eq_true (show len b > 16 by rw [lN]; omega)),if_pos h17]; rfl
      · rw [if_neg (df (show ¬ len b > 16 by rw [lN]; omega)),if_neg h17]
        have hl:b.length=16:=by omega
        have h1:∀x∈b.drop 8,Byte x:=fun x hx=>hb x (List.mem_of_mem_drop hx)
        have h2:∀x∈b.take 8,Byte x:=fun x hx=>hb x (List.mem_of_mem_take hx)
        have e1:(b.drop 8).length=8:=by simp [hl]
        have e2:(b.take 8).length=8:=by simp [hl]
        have a:=rnum_ok F b (b.take 8) 0 (by omega) h2 (by omega) (by omega) (by
          intro i hi
          rw [List.getElem?_take,if_pos (by omega),Nat.zero_add])
        have c:=rnum_ok F b (b.drop 8) 8 (by omega) h1 (by omega) (by omega) (by
          intro i hi
          rw [List.getElem?_drop])
        rw [e2] at a
        rw [e1] at c
        have a':qh F b 0 8=some (num (b.take 8)):=a
        have c':qh F b 8 8=some (num (b.drop 8)):=c
        rw [a',Option.bind_some,c',Option.bind_some,rnumber F (uok16 hb hl),Option.bind_some]
        split <;> rfl
theorem ior_num {b:List Int} {i:Nat} (hb:∀x∈b,Byte x) (hi:i<8) (x:Int) (hx:b[i]? = some x):ior .u64 (num (b.take i)) (x * 256 ^ i)=num (b.take (i+1)):=by
  have hl:(b.take i).length=i:=by
    have:=(List.getElem?_eq_some_iff.1 hx).1
    simp; omega
  have ht:∀x∈b.take i,Byte x:=fun x hx=>hb x (List.mem_of_mem_take hx)
  have h1:=num_lt ht
  rw [hl] at h1
  rw [ior_add _ _ i hi (num_nonneg ht) h1 (hb x (List.mem_of_getElem? hx)),List.take_add_one,hx,num_append,hl]
  simp only [Option.toList_some,num]
  rw [Int.mul_zero,Int.add_zero,Int.mul_comm]
theorem udecode (F:Nat) {b:List Int} (hb:∀x∈b,Byte x) (hF:20<F):q1g F b=some (decU b):=by
  unfold q1g decU
  by_cases h2:b.length=2
  · rw [if_pos (show (len b == 2)=true from by simp [len]; omega),if_pos h2]
    match b,h2,hb with
    | [x,y],_,hb=>
      have hx:=hb x (by simp)
      have hy:=hb y (by simp)
      rw [show idx [x,y] 0=some x from rfl,show idx [x,y] 1=some y from rfl,Option.bind_some,Option.bind_some,word16 hx hy,num2]
      obtain⟨x0,x1⟩:=hx
      obtain⟨y0,y1⟩:=hy
      rw [ushort F _ (by omega) (by omega),Option.bind_some]
      rfl
  · rw [if_neg (show ¬ (len b == 2)=true from by simp [len]; omega),if_neg h2]
    by_cases h16:b.length<16
    · rw [if_pos (decide_eq_true (show len b<16 by rw [lN]; omega)),if_pos h16]; rfl
    · rw [if_neg (df (show ¬ len b<16 by rw [lN]; omega)),if_neg h16]
      by_cases h17:b.length > 16
      · rw [if_pos (decide_eq_true (show len b > 16 by rw [lN]; omega)),if_pos h17]; rfl
      · rw [if_neg (df (show ¬ len b > 16 by rw [lN]; omega)),if_neg h17]
        have hl:b.length=16:=by omega
        have h1:∀x∈b.drop 8,Byte x:=fun x hx=>hb x (List.mem_of_mem_drop hx)
        have:=iter_count (body:=fun s:Tx0×Int=>q1f F b s.1 s.2) (fun i=>(Tx0.mk (num ((b.drop 8).take i)) (num (b.take i)),(i:Int))) 8 (Tx0.mk (num (b.drop 8)) (num (b.take 8))) (by
          intro i hi
          have hx:b[i]? = some b[i]:=List.getElem?_eq_getElem (by omega)
          have hy:b[8+i]? = some b[8+i]:=List.getElem?_eq_getElem (by omega)
          have hy':(b.drop 8)[i]? = some b[8+i]:=by rw [List.getElem?_drop]; exact hy
          show q1f F b _ (i:Int)=_
          unfold q1f
          rw [if_pos (by simp; omega),dN,hx,Option.bind_some,shl_bytes (hb _ (List.mem_of_getElem? hx)) i hi,Option.bind_some]
          unfold q4e
          rw [w64_id (x:=8+(i:Int)) (by omega) (by omega),show (8:Int)+i=((8+i:Nat):Int) from by omega,dN,hy,Option.bind_some,shl_bytes (hb _ (List.mem_of_getElem? hy)) i hi,Option.bind_some,wN i (by omega)]
          simp only
          rw [ior_num hb hi _ hx,ior_num h1 hi _ hy']) (by
          show q1f F b _ ((8:Nat):Int)=_
          unfold q1f
          rw [if_neg (by simp),show (b.drop 8).take 8=b.drop 8 from List.take_of_length_le (by simp [hl])]) F 0 (by omega) (by omega)
        rw [List.take_zero,List.take_zero] at this
        have h0:((Tx0.mk (num []) (num []),((0:Nat):Int)):Tx0×Int)=(Tx0.mk 0 0,0):=rfl
        rw [h0] at this
        rw [this,Option.bind_some]
        unfold q4d
        rw [unumber F (uok16 hb hl),Option.bind_some]
        split <;> rfl
end V
end Go.Proofs.YtoahakdkgefgiaaGreat

namespace Go.Proofs.YtoahakdkgefgiaaGreat
namespace V
theorem dt {p:Prop} [Decidable p] (h:p):decide p=true:=decide_eq_true h
theorem iter_sim {S1 S2 O1 O2:Type} {b1:S1→Option (Out S1 O1)} {b2:S2→Option (Out S2 O2)} (R:S1→S2→Prop) (Q:O1→O2→Prop) (m:S1→Nat)
    (h:∀s1 s2,R s1 s2→(∃t1 t2,b1 s1=some (.next t1)∧b2 s2=some (.next t2)∧R t1 t2∧m t1<m s1)∨∃o1 o2,b1 s1=some (.done o1)∧b2 s2=some (.done o2)∧Q o1 o2) :
    ∀(F:Nat) (s1:S1) (s2:S2),R s1 s2→m s1<F→∃o1 o2,iter b1 F s1=some o1∧iter b2 F s2=some o2∧Q o1 o2
  | 0,_,_,_,hF=>by omega
  | F+1,s1,s2,hR,hF=>by
    rcases h s1 s2 hR with ⟨t1,t2,h1,h2,hR',hm⟩ | ⟨o1,o2,h1,h2,hq⟩
    · obtain⟨o1,o2,h3,h4,hq⟩:=iter_sim R Q m h F t1 t2 hR' (by omega)
      exact⟨o1,o2,by rw [iter_step h1,h3],by rw [iter_step h2,h4],hq⟩
    · exact⟨o1,o2,iter_stop h1,iter_stop h2,hq⟩
structure AOk (a:Tx1):Prop where
  h0:0≤a.Handle
  h1:a.Handle<65536
  u:UOk a.fT
  b:∀x∈a.Value,Byte x
  l:a.Value.length≤140737488355328
def prt (b:List Int):Int×Int×Tx0×Bool:=
  if b.length<3 then (0,0,UZ,false)
  else (num (b.take 1),num ((b.drop 1).take 2),(decU (b.drop 3)).1,(decU (b.drop 3)).2 == 0)
theorem sub_drop {α:Type} (l:List α) (k:Nat) (h:k≤l.length):sub l (k:Int) (len l)=some (l.drop k):=by
  rw [lN,sub_nat l k l.length h (by omega),List.take_length]
theorem rparts (F:Nat) {b:List Int} (hb:∀x∈b,Byte x) (hF:20<F):q27 F b=some (prt b):=by
  unfold q27 prt
  by_cases h3:b.length<3
  · rw [if_pos (dt (show len b<3 by rw [lN]; omega)),if_pos h3]; rfl
  · rw [if_neg (df (show ¬ len b<3 by rw [lN]; omega)),if_neg h3]
    have hs:=sub_drop b 3 (by omega)
    rw [show ((3:Nat):Int)=3 from rfl] at hs
    rw [hs,Option.bind_some,rdecode F (fun x hx=>hb x (List.mem_of_mem_drop hx)) hF,Option.bind_some]
    match b,h3,hb with
    | x::y::z::r,_,hb=>
      obtain⟨x0,x1⟩:=hb x (by simp)
      obtain⟨y0,y1⟩:=hb y (by simp)
      obtain⟨z0,z1⟩:=hb z (by simp)
      have h:=rnum_ok F (x::y::z::r) [y,z] 1 (by simp; omega) (fun w hw=>hb w (by simp at hw ⊢; rcases hw with rfl | rfl <;> simp)) (by simp) (by omega) (by
        intro i hi
        match i,hi with
        | 0,_=>rfl
        | 1,_=>rfl)
      have h':qh F (x::y::z::r) 1 2=some (num [y,z]):=h
      rw [show idx (x::y::z::r) 0=some x from rfl,Option.bind_some,h',Option.bind_some,num2,wu16_id (by omega) (by omega),w64_id (by omega) (by omega)]
      unfold q3r
      simp [num]
theorem udescribed (F:Nat) {b:List Int} (hb:∀x∈b,Byte x) (hF:20<F):q2f F b=some (if (prt b).2.2.2=true then prt b else (0,0,UZ,false)):=by
  unfold q2f prt
  by_cases h3:b.length<3
  · rw [if_pos (dt (show len b<3 by rw [lN]; omega)),if_pos h3]; rfl
  · rw [if_neg (df (show ¬ len b<3 by rw [lN]; omega)),if_neg h3]
    have hs:=sub_drop b 3 (by omega)
    rw [show ((3:Nat):Int)=3 from rfl] at hs
    rw [hs,Option.bind_some,udecode F (fun x hx=>hb x (List.mem_of_mem_drop hx)) hF,Option.bind_some]
    by_cases he:(decU (b.drop 3)).2=0
    · rw [if_neg (by simp [he]),if_pos (show ((decU (b.drop 3)).2 == 0)=true by simpa using he)]
      match b,h3,hb with
      | x::y::z::r,_,hb=>
        have hx:=hb x (by simp)
        have hy:=hb y (by simp)
        have hz:=hb z (by simp)
        obtain⟨x0,x1⟩:=hx
        rw [show idx (x::y::z::r) 0=some x from rfl,show idx (x::y::z::r) 1=some y from rfl,show idx (x::y::z::r) 2=some z from rfl,Option.bind_some,Option.bind_some,Option.bind_some,word16 hy hz,w64_id (by omega) (by omega)]
        unfold q4f
        simp only [List.drop_succ_cons,List.drop_zero] at he ⊢
        rw [he]
        simp [num]
    · rw [if_pos (by simp [he]),if_neg (show ¬ ((decU (b.drop 3)).2 == 0)=true by simpa using he)]; rfl
def cw (db:List Tx1) (i:Nat) (a:Tx1):Bool:=match db[i+1]? with
  | none=>true
  | some b=>(!(prt a.Value).2.2.2||resv (prt a.Value).2.2.1)||(b.Handle != (prt a.Value).2.1 || !(b.fT.High == (prt a.Value).2.2.1.High&&b.fT.Low == (prt a.Value).2.2.1.Low))
def wrg (db:List Tx1) (i:Nat) (p:Tx9) (a:Tx1):Bool:=
  if (((i:Int) == 0 && !isv a.fT)||(decl a.fT&&(iand .i64 a.Perms 2 != 0)))=true then true
  else if isv a.fT=true then (decU a.Value).2 != 0
  else if isN a.fT 10243=true then cw db i a
  else if isN a.fT 10498=true then ((len a.Value != 2 || !p.char)||p.config)
  else false
theorem prt_ok {b:List Int} (hb:∀x∈b,Byte x):UOk (prt b).2.2.1:=by
  unfold prt
  split
  · exact⟨by decide,by decide,by decide,by decide⟩
  · exact decU_ok fun x hx=>hb x (List.mem_of_mem_drop hx)
theorem uwrong (F:Nat) {db:List Tx1} {i:Nat} {a:Tx1} (p:Tx9) (hi:db[i]? = some a) (hn:db.length≤9000000000000000) (ha:AOk a) (hF:20<F):q2h F db i p=some (wrg db i p a):=by
  have hil:=(List.getElem?_eq_some_iff.1 hi).1
  unfold q2h wrg
  rw [dN,hi,Option.bind_some,service_ok F ha.u (by omega),declaration_ok F ha.u (by omega)]
  have hj:∀z:Bool,q2u F db i p a z=some (if z=true then true else if isv a.fT=true then (decU a.Value).2 != 0 else if isN a.fT 10243=true then cw db i a else if isN a.fT 10498=true then ((len a.Value != 2 || !p.char)||p.config) else false):=by
    intro z
    unfold q2u
    cases z with
    | true=>rfl
    | false=>
      rw [if_neg (by decide),if_neg (by decide),service_ok F ha.u (by omega),Option.bind_some]
      by_cases hs:isv a.fT=true
      · rw [if_pos hs,if_pos hs,udecode F ha.b hF,Option.bind_some]
      · rw [if_neg hs,if_neg hs,is1 F ha.u 10243 (by omega) (by decide) (by decide),Option.bind_some]
        by_cases hc:isN a.fT 10243=true
        · rw [if_pos hc,if_pos hc,udescribed F ha.b hF,Option.bind_some]
          unfold cw
          have hw:w64 ((i:Int)+1)=((i+1:Nat):Int):=wN i (by omega)
          by_cases ho:(prt a.Value).2.2.2=true
          · rw [if_pos ho,if_neg (by rw [ho]; decide),reserved_ok F (prt_ok ha.b) (by omega),Option.bind_some,hw,ho]
            by_cases hl:i+1<db.length
            · rw [List.getElem?_eq_getElem hl,dN,List.getElem?_eq_getElem hl]
              simp only [Option.bind_some]
              by_cases hr:resv (prt a.Value).2.2.1=true
              · rw [if_pos (by rw [hr]; rfl),hr]; rfl
              · rw [if_neg (by rw [(Bool.not_eq_true _).mp hr,Bool.false_or]; exact df (by rw [lN]; omega)),(Bool.not_eq_true _).mp hr]
                by_cases hh:(db[i+1].Handle != (prt a.Value).2.1)=true
                · rw [if_pos hh,hh]; rfl
                · rw [if_neg hh,(Bool.not_eq_true _).mp hh]; rfl
            · rw [List.getElem?_eq_none (by omega),if_pos (by
                rw [Bool.or_eq_true]
                exact .inr (dt (by rw [lN]; omega)))]
              rfl
          · rw [if_neg ho,if_pos (by rfl),if_pos (by rfl),(Bool.not_eq_true _).mp ho]
            cases db[i+1]? <;> rfl
        · rw [if_neg hc,if_neg hc,is1 F ha.u 10498 (by omega) (by decide) (by decide),Option.bind_some]
          by_cases hg:isN a.fT 10498=true
          · rw [if_pos hg,if_pos hg]
          · rw [if_neg hg,if_neg hg]
  by_cases h0:((i:Int) == 0)=true
  · rw [if_pos h0,Option.bind_some,Option.bind_some,h0,Bool.true_and]
    by_cases hs:isv a.fT=true
    · rw [hs]
      simp only [Bool.not_true,Bool.false_eq_true,if_false,Option.bind_some,Bool.false_or]
      rw [hj,hs]
      simp
    · rw [(Bool.not_eq_true _).mp hs]
      simp only [Bool.not_false,if_true,Bool.true_or]
      rw [hj]
      rfl
  · rw [if_neg h0,Option.bind_some,if_neg (by decide),Option.bind_some,(Bool.not_eq_true _).mp h0,Bool.false_and,Bool.false_or,hj]
def stepP (p:Tx9) (u:Tx0):Tx9:=
  if isv u=true then Tx9.mk false false
  else if isN u 10243=true then Tx9.mk true false
  else if isN u 10498=true then { p with config:=true }
  else p
def plc (l:List Tx1):Tx9:=l.foldl (fun p a=>stepP p a.fT) (Tx9.mk false false)
theorem plc_snoc (l:List Tx1) (a:Tx1):plc (l++[a])=stepP (plc l) a.fT:=by simp [plc]
def cho (db:List Tx1):Nat→Int
  | 0=>-1
  | k+1=>match db[k]? with
    | none=>-1
    | some a=>if isN a.fT 10243=true then (k:Int) else if isv a.fT=true then -1 else cho db k
theorem isN_ne {u:Tx0} {m n:Int} (h:isN u m=true) (hn:m≠n):isN u n=false:=by
  rw [isN_eq h,isN_sh]
  exact beq_false_of_ne hn
theorem char_not {u:Tx0} (h:isN u 10243=true):isv u=false∧isN u 10498=false:=by
  unfold isv
  rw [isN_ne h (by decide),isN_ne h (by decide),isN_ne h (by decide)]
  exact⟨rfl,rfl⟩
theorem conf_not {u:Tx0} (h:isN u 10498=true):isv u=false∧isN u 10243=false:=by
  unfold isv
  rw [isN_ne h (by decide),isN_ne h (by decide),isN_ne h (by decide)]
  exact⟨rfl,rfl⟩
theorem cho_plc (db:List Tx1):∀k,k≤db.length→(cho db k = -1∧(plc (db.take k)).char=false)∨∃c:Nat,c<k∧cho db k=c∧(plc (db.take k)).char=true∧((db.take k).drop c).any (fun a=>isN a.fT 10498)=(plc (db.take k)).config
  | 0,_=>.inl ⟨rfl,rfl⟩
  | k+1,hk=>by
    have hx:db[k]? = some db[k]:=List.getElem?_eq_getElem hk
    have ht:db.take (k+1)=db.take k++[db[k]]:=by rw [List.take_add_one,hx]; rfl
    have ih:=cho_plc db k (by omega)
    have hl:(db.take k).length=k:=by simp; omega
    rw [ht,plc_snoc]
    simp only [cho,hx]
    unfold stepP
    by_cases hc:isN db[k].fT 10243=true
    · obtain⟨h1,h2⟩:=char_not hc
      rw [if_pos hc,h1,if_neg (by decide),if_pos hc]
      refine .inr ⟨k,by omega,rfl,rfl,?_⟩
      rw [List.drop_append_of_le_length (by omega),List.drop_of_length_le (by omega)]
      simp [h2]
    · rw [if_neg hc]
      by_cases hs:isv db[k].fT=true
      · rw [if_pos hs,if_pos hs]
        exact .inl ⟨rfl,rfl⟩
      · rw [if_neg hs,if_neg hs,if_neg hc]
        by_cases hg:isN db[k].fT 10498=true
        · rw [if_pos hg]
          rcases ih with ⟨h1,h2⟩ | ⟨c,h0,h1,h2,h3⟩
          · exact .inl ⟨h1,h2⟩
          · refine .inr ⟨c,by omega,h1,h2,?_⟩
            rw [List.drop_append_of_le_length (by omega),List.any_append]
            simp [hg]
        · rw [if_neg hg]
          rcases ih with ⟨h1,h2⟩ | ⟨c,h0,h1,h2,h3⟩
          · exact .inl ⟨h1,h2⟩
          · refine .inr ⟨c,by omega,h1,h2,?_⟩
            rw [List.drop_append_of_le_length (by omega),List.any_append,h3]
            simp [(Bool.not_eq_true _).mp hg]
theorem rcharOf (F:Nat) (db:List Tx1) (i:Nat) (hi:i<db.length) (hF:i+5<F) (hn:db.length≤9000000000000000):q29 F db i=some (cho db (i+1)):=by
  have key:∀(k f:Nat),k≤db.length→k<f→∃o,iter (fun s=>q1w F db s) f ((k:Int) - 1)=some o∧(o = .inl ()∧cho db k = -1∨o = .inr (cho db k)):=by
    intro k
    induction k with
    | zero=>
      intro f _ hf
      obtain⟨f,rfl⟩:∃g,f=g+1:=⟨f - 1,by omega⟩
      exact⟨.inl (),iter_stop (by
        unfold q1w
        rw [if_neg (by simp)]),.inl ⟨rfl,rfl⟩⟩
    | succ k ih=>
      intro f hk hf
      obtain⟨f,rfl⟩:∃g,f=g+1:=⟨f - 1,by omega⟩
      have hx:db[k]? = some db[k]:=List.getElem?_eq_getElem hk
      have e:((k+1:Nat):Int) - 1=(k:Int):=by omega
      rw [e]
      have hb:q1w F db (k:Int)=(if isN db[k].fT 10243=true then some (.done (.inr (k:Int))) else if isv db[k].fT=true then some (.done (.inr (-1))) else some (.next ((k:Int) - 1))):=by
        unfold q1w
        rw [if_pos (dt (by omega)),dN,hx,Option.bind_some,rIsChar,Option.bind_some,Option.bind_some,rIsService,Option.bind_some,w64_id (by omega) (by omega)]
      have hcho:cho db (k+1)=if isN db[k].fT 10243=true then (k:Int) else if isv db[k].fT=true then -1 else cho db k:=by
        simp only [cho,hx]
      by_cases hc:isN db[k].fT 10243=true
      · rw [if_pos hc] at hb hcho
        exact⟨_,iter_stop hb,.inr (by rw [hcho])⟩
      · rw [if_neg hc] at hb hcho
        by_cases hs:isv db[k].fT=true
        · rw [if_pos hs] at hb hcho
          exact⟨_,iter_stop hb,.inr (by rw [hcho])⟩
        · rw [if_neg hs] at hb hcho
          obtain⟨o,h1,h2⟩:=ih f (by omega) (by omega)
          exact⟨o,by rw [iter_step hb,h1],by rw [hcho]; exact h2⟩
  unfold q29
  obtain⟨o,h,h2⟩:=key (i+1) F (by omega) (by omega)
  rw [show ((i+1:Nat):Int) - 1=(i:Int) from by omega] at h
  rw [h,Option.bind_some]
  rcases h2 with ⟨rfl,h2⟩ | rfl
  · rw [h2]; rfl
  · rfl
theorem rconfig (F:Nat) {db:List Tx1} {i:Nat} {a:Tx1} (hi:db[i]? = some a) (hg:isN a.fT 10498=true) (hn:db.length≤9000000000000000) (hF:db.length+20<F):q2a F db i=some ((len a.Value != 2 || !(plc (db.take i)).char)||(plc (db.take i)).config):=by
  have hil:=(List.getElem?_eq_some_iff.1 hi).1
  unfold q2a
  rw [rcharOf F db i hil (by omega) hn,Option.bind_some,dN,hi,Option.bind_some]
  obtain⟨h1,h2⟩:=conf_not hg
  have hc:cho db (i+1)=cho db i:=by
    simp only [cho,hi,h1,h2,Bool.false_eq_true,if_false]
  rw [hc]
  by_cases hl:(len a.Value != 2)=true
  · rw [hl,Bool.true_or,if_pos rfl]; rfl
  · rw [(Bool.not_eq_true _).mp hl,Bool.false_or,Bool.false_or]
    rcases cho_plc db i (by omega) with ⟨h3,h4⟩ | ⟨c,h0,h3,h4,h5⟩
    · rw [h3,h4,if_pos (by decide)]; rfl
    · rw [h3,h4,if_neg (df (by omega))]
      have:=iter_any (body:=fun s=>q1a F db i s) (l:=db.take i) (p:=fun a=>isN a.fT 10498) (o:=Sum.inr true) (e:=Sum.inl ()) (by
        intro k x hx
        have hkl:=(List.getElem?_eq_some_iff.1 hx).1
        rw [List.length_take] at hkl
        rw [List.getElem?_take,if_pos (by omega)] at hx
        show q1a F db i (k:Int)=_
        unfold q1a
        rw [if_pos (dt (by omega)),dN,hx,Option.bind_some,rIs F _ _ (by decide) (by decide),Option.bind_some,wN k (by omega)]
        split <;> rfl) (by
        rw [List.length_take,Nat.min_eq_left (by omega)]
        show q1a F db i (i:Int)=_
        unfold q1a
        rw [if_neg (df (by omega))]) F c (by rw [List.length_take]; omega) (by rw [List.length_take]; omega)
      rw [this,h5,Option.bind_some]
      cases (plc (db.take i)).config <;> rfl
theorem rcharWrong (F:Nat) {db:List Tx1} {i:Nat} {a:Tx1} (hi:db[i]? = some a) (hn:db.length≤9000000000000000) (ha:AOk a) (hF:20<F):q28 F db i=some (cw db i a):=by
  have hil:=(List.getElem?_eq_some_iff.1 hi).1
  unfold q28 cw
  rw [dN,hi,Option.bind_some,rparts F ha.b hF,Option.bind_some,rkept]
  have hw:w64 ((i:Int)+1)=((i+1:Nat):Int):=wN i (by omega)
  have hz:((if (!(prt a.Value).2.2.2)=true then some true else (some (resv (prt a.Value).2.2.1)).bind fun x_14=>some x_14):Option Bool)=some (!(prt a.Value).2.2.2||resv (prt a.Value).2.2.1):=by
    cases (prt a.Value).2.2.2 <;> rfl
  rw [hz,Option.bind_some,hw,dN]
  by_cases hl:i+1<db.length
  · rw [List.getElem?_eq_getElem hl]
    simp only [Option.bind_some]
    by_cases hr:(!(prt a.Value).2.2.2||resv (prt a.Value).2.2.1)=true
    · rw [hr,Bool.true_or,if_pos rfl,Bool.true_or]
    · rw [(Bool.not_eq_true _).mp hr,Bool.false_or,if_neg (df (by rw [lN]; omega)),Bool.false_or]
      by_cases hh:(db[i+1].Handle != (prt a.Value).2.1)=true
      · rw [if_pos hh,hh]; rfl
      · rw [if_neg hh,(Bool.not_eq_true _).mp hh]; rfl
  · rw [List.getElem?_eq_none (by omega),if_pos (by
      rw [Bool.or_eq_true]
      exact .inr (dt (by rw [lN]; omega)))]
theorem rwrong (F:Nat) {db:List Tx1} {i:Nat} {a:Tx1} (hi:db[i]? = some a) (hn:db.length≤9000000000000000) (ha:AOk a) (hF:db.length+20<F):q2b F db i=some (wrg db i (plc (db.take i)) a):=by
  unfold q2b wrg
  rw [dN,hi,Option.bind_some,rIsService,rdeclares]
  have hz:((if ((i:Int) == 0)=true then (some (isv a.fT)).bind fun x_25=>some !x_25 else some false):Option Bool)=some ((i:Int) == 0 && !isv a.fT):=by
    cases ((i:Int) == 0) <;> rfl
  rw [hz,Option.bind_some]
  have hz2:((if ((i:Int) == 0 && !isv a.fT)=true then some true else (some (decl a.fT)).bind fun x_22=>if x_22=true then some (iand IntKind.i64 a.Perms 2 != 0) else some false):Option Bool)=some (((i:Int) == 0 && !isv a.fT)||(decl a.fT&&(iand .i64 a.Perms 2 != 0))):=by
    cases ((i:Int) == 0 && !isv a.fT) <;> cases decl a.fT <;> rfl
  rw [hz2,Option.bind_some]
  by_cases hq:(((i:Int) == 0 && !isv a.fT)||(decl a.fT&&(iand .i64 a.Perms 2 != 0)))=true
  · rw [if_pos hq,if_pos hq]
  · rw [if_neg hq,if_neg hq,Option.bind_some]
    by_cases hs:isv a.fT=true
    · rw [if_pos hs,if_pos hs,rdecode F ha.b (by omega),Option.bind_some]
    · rw [if_neg hs,if_neg hs,rIsChar,Option.bind_some,rcharWrong F hi hn ha (by omega),rIs F _ _ (by decide) (by decide)]
      by_cases hc:isN a.fT 10243=true
      · rw [if_pos hc,if_pos hc,Option.bind_some,Option.bind_some,(char_not hc).2]
        cases cw db i a <;> rfl
      · rw [if_neg hc,if_neg hc,Option.bind_some,if_neg (by decide),Option.bind_some]
        by_cases hg:isN a.fT 10498=true
        · rw [if_pos hg,if_pos hg,rconfig F hi hg hn hF,Option.bind_some,Option.bind_some]
        · rw [if_neg hg,if_neg hg,Option.bind_some]
theorem check_same (F:Nat) (db:List Tx1) (hdb:∀a∈db,AOk a) (hn:db.length≤9000000000000000) (hF:db.length+20<F):∃e,q1h F db=some e∧qn F db=some e:=by
  unfold q1h qn
  by_cases hl:len db > 1000
  · rw [if_pos (dt hl),if_pos (dt hl)]
    exact⟨_,rfl,rfl⟩
  · rw [if_neg (df hl),if_neg (df hl)]
    obtain⟨o1,o2,h1,h2,h3⟩:=iter_sim (b1:=fun s:Int×Tx9×Int=>q1z F db s.1 s.2.1 s.2.2) (b2:=fun s:Int×Int=>qd F db s.1 s.2)
      (fun s t=>∃i:Nat,i≤db.length∧s=(t.1,plc (db.take i),(i:Int))∧t.2=(i:Int)) (fun a b=>a=b) (fun s=>db.length - s.2.2.toNat) (by
      rintro s ⟨last,x⟩ ⟨i,hi,rfl,hx⟩
      simp only at hx
      subst hx
      show (∃t1 t2,q1z F db last (plc (db.take i)) (i:Int)=some (.next t1)∧qd F db last (i:Int)=some (.next t2)∧_)∨∃o1 o2,q1z F db last (plc (db.take i)) (i:Int)=some (.done o1)∧qd F db last (i:Int)=some (.done o2)∧_
      unfold q1z qd
      by_cases hin:i<db.length
      · have hxa:db[i]? = some db[i]:=List.getElem?_eq_getElem hin
        have ha:=hdb _ (List.getElem_mem hin)
        generalize hq:db[i]=a at hxa ha
        rw [if_pos (dt (show (i:Int)<len db by rw [lN]; omega)),if_pos (dt (show (i:Int)<len db by rw [lN]; omega)),dN,hxa]
        simp only [Option.bind_some]
        by_cases h1:a.Handle≤last
        · rw [if_pos (dt h1),if_pos (dt h1)]
          exact .inr ⟨_,_,rfl,rfl,rfl⟩
        · rw [if_neg (df h1),if_neg (df h1)]
          have hp:((if decide (a.Perms<0)=true then some true else some (decide (a.Perms > 15))):Option Bool)=some (decide (a.Perms<0)||decide (a.Perms > 15)):=by
            cases decide (a.Perms<0) <;> rfl
          rw [hp,Option.bind_some]
          by_cases h2:(decide (a.Perms<0)||decide (a.Perms > 15))=true
          · rw [if_pos h2,if_pos h2]
            exact .inr ⟨_,_,rfl,rfl,rfl⟩
          · rw [if_neg h2,if_neg h2]
            by_cases h3:len a.Value > 512
            · rw [if_pos (dt h3),if_pos (dt h3)]
              exact .inr ⟨_,_,rfl,rfl,rfl⟩
            · rw [if_neg (df h3),if_neg (df h3),uwrong F _ hxa hn ha (by omega),rwrong F hxa hn ha hF,Option.bind_some,Option.bind_some]
              by_cases h4:wrg db i (plc (db.take i)) a=true
              · rw [if_pos h4,if_pos h4]
                exact .inr ⟨_,_,rfl,rfl,rfl⟩
              · rw [if_neg h4,if_neg h4,service_ok F ha.u (by omega),is1 F ha.u 10243 (by omega) (by decide) (by decide),is1 F ha.u 10498 (by omega) (by decide) (by decide)]
                simp only [Option.bind_some]
                have ht:plc (db.take (i+1))=stepP (plc (db.take i)) a.fT:=by
                  rw [List.take_add_one,hxa]
                  exact plc_snoc _ _
                have hw:=wN i (by omega)
                refine .inl ⟨(a.Handle,plc (db.take (i+1)),((i+1:Nat):Int)),(a.Handle,((i+1:Nat):Int)),?_,by rw [hw],⟨i+1,by omega,rfl,rfl⟩,by simp only; omega⟩
                rw [ht]
                unfold stepP q2i
                rw [hw]
                split
                · rfl
                · split
                  · rfl
                  · split <;> rfl
      · rw [if_neg (df (show ¬ (i:Int)<len db by rw [lN]; omega)),if_neg (df (show ¬ (i:Int)<len db by rw [lN]; omega))]
        exact .inr ⟨_,_,rfl,rfl,rfl⟩) F (0,Tx9.mk false false,0) (0,0) ⟨0,by omega,rfl,rfl⟩ (by simp only; omega)
    rw [h1,h2,h3]
    simp only [Option.bind_some]
    cases o2 with
    | inl u=>exact⟨_,rfl,rfl⟩
    | inr e=>exact⟨_,rfl,rfl⟩
end V
end Go.Proofs.YtoahakdkgefgiaaGreat

namespace Go.Proofs.YtoahakdkgefgiaaGreat
namespace V
theorem rcheck_good (F:Nat) (db:List Tx1) (hdb:∀a∈db,AOk a) (hn:db.length≤9000000000000000) (hF:db.length+20<F) (h:qn F db=some 0):(∀i a b,db[i]? = some a→db[i+1]? = some b→a.Handle<b.Handle)∧(∀a,db[0]? = some a→isv a.fT=true)∧∀a∈db,0<a.Handle:=by
  unfold qn at h
  by_cases hl:len db > 1000
  · rw [if_pos (dt hl)] at h; cases h
  · rw [if_neg (df hl)] at h
    obtain⟨o,h1,h2⟩:=iter_by (body:=fun s:Int×Int=>qd F db s.1 s.2)
      (fun s=>∃i:Nat,s.2=(i:Int)∧i≤db.length∧0≤s.1∧(∀j a b,j+1<i→db[j]? = some a→db[j+1]? = some b→a.Handle<b.Handle)∧(∀a,0<i→db[0]? = some a→isv a.fT=true)∧(∀j a,j+1=i→db[j]? = some a→a.Handle=s.1)∧(∀a∈db.take i,0<a.Handle))
      (fun o=>o = .inl ()→(∀i a b,db[i]? = some a→db[i+1]? = some b→a.Handle<b.Handle)∧(∀a,db[0]? = some a→isv a.fT=true)∧∀a∈db,0<a.Handle) (fun s=>db.length - s.2.toNat) (by
      rintro⟨last,x⟩ ⟨i,hx,hi,hp,hs,hf,hlast,hpos⟩
      simp only at hx hp hlast
      subst hx
      show (∃s',qd F db last (i:Int)=some (.next s')∧_)∨∃o,qd F db last (i:Int)=some (.done o)∧_
      unfold qd
      by_cases hin:i<db.length
      · have hxa:db[i]? = some db[i]:=List.getElem?_eq_getElem hin
        have ha:=hdb _ (List.getElem_mem hin)
        generalize hq:db[i]=a at hxa ha
        rw [if_pos (dt (show (i:Int)<len db by rw [lN]; omega)),dN,hxa]
        simp only [Option.bind_some]
        by_cases h1:a.Handle≤last
        · rw [if_pos (dt h1)]
          exact .inr ⟨_,rfl,fun h=>by cases h⟩
        · rw [if_neg (df h1)]
          have hp2:((if decide (a.Perms<0)=true then some true else some (decide (a.Perms > 15))):Option Bool)=some (decide (a.Perms<0)||decide (a.Perms > 15)):=by
            cases decide (a.Perms<0) <;> rfl
          rw [hp2,Option.bind_some]
          by_cases h2:(decide (a.Perms<0)||decide (a.Perms > 15))=true
          · rw [if_pos h2]
            exact .inr ⟨_,rfl,fun h=>by cases h⟩
          · rw [if_neg h2]
            by_cases h3:len a.Value > 512
            · rw [if_pos (dt h3)]
              exact .inr ⟨_,rfl,fun h=>by cases h⟩
            · rw [if_neg (df h3),rwrong F hxa hn ha hF,Option.bind_some]
              by_cases h4:wrg db i (plc (db.take i)) a=true
              · rw [if_pos h4]
                exact .inr ⟨_,rfl,fun h=>by cases h⟩
              · rw [if_neg h4]
                refine .inl ⟨_,rfl,⟨i+1,?_,by omega,?_,?_,?_,?_,?_⟩,?_⟩
                · simp only; exact wN i (by omega)
                · simp only; exact ha.h0
                · intro j c d hj hc hd
                  by_cases hji:j+1<i
                  · exact hs j c d hji hc hd
                  · have:j+1=i:=by omega
                    rw [this,hxa] at hd
                    injection hd with hd
                    subst hd
                    rw [hlast j c this hc]
                    omega
                · intro c _ hc
                  by_cases hi0:0<i
                  · exact hf c hi0 hc
                  · have:i=0:=by omega
                    subst this
                    rw [hxa] at hc
                    injection hc with hc
                    subst hc
                    cases hv:isv a.fT with
                    | true=>rfl
                    | false=>
                      exfalso
                      apply h4
                      unfold wrg
                      rw [if_pos (by rw [hv]; rfl)]
                · intro j c hj hc
                  have:j=i:=by omega
                  subst this
                  rw [hxa] at hc
                  injection hc with hc
                  rw [hc]
                · intro c hc
                  rw [List.take_add_one,hxa] at hc
                  rcases List.mem_append.1 hc with hc | hc
                  · exact hpos c hc
                  · simp at hc; subst hc; omega
                · simp only; rw [wN i (by omega)]; omega
      · rw [if_neg (df (show ¬ (i:Int)<len db by rw [lN]; omega))]
        have hil:i=db.length:=by omega
        refine .inr ⟨_,rfl,fun _=>⟨fun j c d hc hd=>hs j c d ?_ hc hd,fun c hc=>hf c ?_ hc,fun c hc=>hpos c ?_⟩⟩
        · rw [hil]; exact (List.getElem?_eq_some_iff.1 hd).1
        · rw [hil]; exact (List.getElem?_eq_some_iff.1 hc).1
        · rw [hil,List.take_length]; exact hc) F (0,0) ⟨0,rfl,by omega,by simp,by intro j a b hj; omega,by intro a h; omega,by intro j a hj; omega,by simp⟩ (by simp only; omega)
    rw [h1,Option.bind_some] at h
    cases o with
    | inl u=>exact h2 rfl
    | inr e=>
      simp only [Option.some.injEq] at h
      exfalso
      obtain⟨o',g1,g2⟩:=iter_by (body:=fun s:Int×Int=>qd F db s.1 s.2) (fun s=>∃i:Nat,s.2=(i:Int)∧i≤db.length) (fun o=>∀e,o = .inr e→e≠0) (fun s=>db.length - s.2.toNat) (by
        rintro⟨last,x⟩ ⟨i,hx,hi⟩
        simp only at hx
        subst hx
        show (∃s',qd F db last (i:Int)=some (.next s')∧_)∨∃o,qd F db last (i:Int)=some (.done o)∧_
        unfold qd
        by_cases hin:i<db.length
        · have hxa:db[i]? = some db[i]:=List.getElem?_eq_getElem hin
          have ha:=hdb _ (List.getElem_mem hin)
          generalize hq:db[i]=a at hxa ha
          rw [if_pos (dt (show (i:Int)<len db by rw [lN]; omega)),dN,hxa]
          simp only [Option.bind_some]
          have hp2:((if decide (a.Perms<0)=true then some true else some (decide (a.Perms > 15))):Option Bool)=some (decide (a.Perms<0)||decide (a.Perms > 15)):=by
            cases decide (a.Perms<0) <;> rfl
          rw [hp2,Option.bind_some,rwrong F hxa hn ha hF,Option.bind_some]
          split
          · exact .inr ⟨_,rfl,fun e h=>by injection h with h; subst h; decide⟩
          · split
            · exact .inr ⟨_,rfl,fun e h=>by injection h with h; subst h; decide⟩
            · split
              · exact .inr ⟨_,rfl,fun e h=>by injection h with h; subst h; decide⟩
              · split
                · exact .inr ⟨_,rfl,fun e h=>by injection h with h; subst h; decide⟩
                · exact .inl ⟨_,rfl,⟨i+1,by simp only; exact wN i (by omega),by omega⟩,by simp only; rw [wN i (by omega)]; omega⟩
        · rw [if_neg (df (show ¬ (i:Int)<len db by rw [lN]; omega))]
          exact .inr ⟨_,rfl,fun e h=>by cases h⟩) F (0,0) ⟨0,rfl,by omega⟩ (by simp only; omega)
      rw [g1] at h1
      injection h1 with h1
      exact g2 e h1 h
def fnd (db:List Tx1) (h:Int):Int:=match db.findIdx? (fun a=>a.Handle == h) with
  | some k=>(k:Int)
  | none=>-1
theorem ufind (F:Nat) (db:List Tx1) (h:Int) (hn:db.length≤9000000000000000) (hF:db.length<F):qg F db h=some (fnd db h):=by
  unfold qg q2x
  have:=iter_find (body:=fun s:Int×Int=>q1o F db s.1 s.2) (fun i=>(h,(i:Int))) (l:=db) (p:=fun a=>a.Handle == h) (g:=fun k=>Sum.inr ((k:Int),h)) (e:=Sum.inl h) (by
    intro i x hx
    have hi:=(List.getElem?_eq_some_iff.1 hx).1
    show q1o F db h (i:Int)=_
    unfold q1o q2w
    rw [if_pos (dt (by rw [lN]; omega)),dN,hx,Option.bind_some,Option.bind_some,wN i (by omega)]
    simp only
    split <;> rfl) (by
    show q1o F db h _=_
    unfold q1o
    rw [if_neg (df (by rw [lN]; omega))]) F 0 (by omega) (by omega)
  rw [show ((0:Nat):Int)=0 from rfl] at this
  rw [this,Option.bind_some,List.drop_zero]
  unfold fnd
  cases db.findIdx? (fun a=>a.Handle == h) with
  | none=>rfl
  | some k=>simp
structure Good (db:List Tx1):Prop where
  g:∀(i:Nat) a,db[i]? = some a→0≤a.Perms∧a.Perms≤15∧a.Value.length≤512∧wrg db i (plc (db.take i)) a=false
theorem rcheck_all (F:Nat) (db:List Tx1) (hdb:∀a∈db,AOk a) (hn:db.length≤9000000000000000) (hF:db.length+20<F) (h:qn F db=some 0):Good db:=by
  unfold qn at h
  by_cases hl:len db > 1000
  · rw [if_pos (dt hl)] at h; cases h
  · rw [if_neg (df hl)] at h
    obtain⟨o,h1,h2⟩:=iter_by (body:=fun s:Int×Int=>qd F db s.1 s.2)
      (fun s=>∃i:Nat,s.2=(i:Int)∧i≤db.length∧∀j a,j<i→db[j]? = some a→0≤a.Perms∧a.Perms≤15∧a.Value.length≤512∧wrg db j (plc (db.take j)) a=false)
      (fun o=>(∀e,o = .inr e→e≠0)∧(o = .inl ()→Good db)) (fun s=>db.length - s.2.toNat) (by
      rintro⟨last,x⟩ ⟨i,hx,hi,hp⟩
      simp only at hx
      subst hx
      show (∃s',qd F db last (i:Int)=some (.next s')∧_)∨∃o,qd F db last (i:Int)=some (.done o)∧_
      unfold qd
      by_cases hin:i<db.length
      · have hxa:db[i]? = some db[i]:=List.getElem?_eq_getElem hin
        have ha:=hdb _ (List.getElem_mem hin)
        generalize hq:db[i]=a at hxa ha
        rw [if_pos (dt (show (i:Int)<len db by rw [lN]; omega)),dN,hxa]
        simp only [Option.bind_some]
        by_cases h1:a.Handle≤last
        · rw [if_pos (dt h1)]
          exact .inr ⟨_,rfl,(fun e h=>by injection h with h; subst h; decide),fun h=>by cases h⟩
        · rw [if_neg (df h1)]
          have hp2:((if decide (a.Perms<0)=true then some true else some (decide (a.Perms > 15))):Option Bool)=some (decide (a.Perms<0)||decide (a.Perms > 15)):=by
            cases decide (a.Perms<0) <;> rfl
          rw [hp2,Option.bind_some]
          by_cases h2:(decide (a.Perms<0)||decide (a.Perms > 15))=true
          · rw [if_pos h2]
            exact .inr ⟨_,rfl,(fun e h=>by injection h with h; subst h; decide),fun h=>by cases h⟩
          · rw [if_neg h2]
            by_cases h3:len a.Value > 512
            · rw [if_pos (dt h3)]
              exact .inr ⟨_,rfl,(fun e h=>by injection h with h; subst h; decide),fun h=>by cases h⟩
            · rw [if_neg (df h3),rwrong F hxa hn ha hF,Option.bind_some]
              by_cases h4:wrg db i (plc (db.take i)) a=true
              · rw [if_pos h4]
                exact .inr ⟨_,rfl,(fun e h=>by injection h with h; subst h; decide),fun h=>by cases h⟩
              · rw [if_neg h4]
                rw [lN] at h3
                simp only [Bool.or_eq_true,decide_eq_true_eq] at h2
                refine .inl ⟨_,rfl,⟨i+1,by simp only; exact wN i (by omega),by omega,?_⟩,by simp only; rw [wN i (by omega)]; omega⟩
                intro j c hj hc
                by_cases hji:j<i
                · exact hp j c hji hc
                · have:j=i:=by omega
                  subst this
                  rw [hxa] at hc
                  injection hc with hc
                  subst hc
                  exact⟨by omega,by omega,by omega,(Bool.not_eq_true _).mp h4⟩
      · rw [if_neg (df (show ¬ (i:Int)<len db by rw [lN]; omega))]
        refine .inr ⟨_,rfl,(fun e h=>by cases h),fun _=>⟨fun j c hc=>hp j c ?_ hc⟩⟩
        have:=(List.getElem?_eq_some_iff.1 hc).1
        omega) F (0,0) ⟨0,rfl,by omega,by intro j a hj; omega⟩ (by simp only; omega)
    rw [h1,Option.bind_some] at h
    cases o with
    | inl u=>exact h2.2 rfl
    | inr e=>
      simp only [Option.some.injEq] at h
      exact absurd h (h2.1 e rfl)
end V
end Go.Proofs.YtoahakdkgefgiaaGreat

namespace Go.Proofs.YtoahakdkgefgiaaGreat
namespace V
theorem sis (F:Nat) (u:Tx0) (n:Int) (h0:0≤n) (h1:n<65536):q9 F u n=some (isN u n):=by
  unfold q9
  rw [ushort F n h0 h1,Option.bind_some]
  rfl
def free (db:List Tx1) (i k:Nat):Prop:=∀(j:Nat) b,i<j→j<k→db[j]? = some b→isv b.fT=false∧isN b.fT 10243=false
def conf (db:List Tx1) (j:Nat):Prop:=∃b,db[j]? = some b∧isN b.fT 10498=true
def chr (db:List Tx1) (c:Nat) (a:Tx1):Prop:=db[c]? = some a∧isN a.fT 10243=true
def bt (p:Int):Int:=(if iand .i64 p 16 != 0 then 1 else 0)+(if iand .i64 p 32 != 0 then 2 else 0)
def hit (db:List Tx1) (h:Int) (j c:Nat) (a:Tx1):Prop:=conf db j∧cho db (j+1)=(c:Int)∧chr db c a∧(prt a.Value).2.1=h
def Inc (db:List Tx1):Prop:=∀(i:Nat) a b,db[i]? = some a→db[i+1]? = some b→a.Handle<b.Handle
theorem inc_lt {db:List Tx1} (hi:Inc db):∀(d i:Nat) a b,db[i]? = some a→db[i+d+1]? = some b→a.Handle<b.Handle
  | 0,i,a,b,h1,h2=>hi i a b h1 h2
  | d+1,i,a,b,h1,h2=>by
    have hl:=(List.getElem?_eq_some_iff.1 h2).1
    have hx:db[i+d+1]? = some db[i+d+1]:=List.getElem?_eq_getElem (by omega)
    have g1:=inc_lt hi d i a _ h1 hx
    have g2:=hi (i+d+1) _ b hx h2
    omega
theorem fnd_at {db:List Tx1} (hi:Inc db) {k:Nat} {a:Tx1} (h:db[k]? = some a):fnd db a.Handle=(k:Int):=by
  have hl:=(List.getElem?_eq_some_iff.1 h).1
  have:db.findIdx? (fun b=>b.Handle == a.Handle)=some k:=by
    rw [List.findIdx?_eq_some_iff_getElem]
    refine ⟨hl,?_,?_⟩
    · rw [(List.getElem?_eq_some_iff.1 h).2]; simp
    · intro j hj
      have hx:db[j]? = some db[j]:=List.getElem?_eq_getElem (by omega)
      have:=inc_lt hi (k - j - 1) j _ a hx (by rw [show j+(k - j - 1)+1=k from by omega]; exact h)
      simp
      omega
  unfold fnd
  rw [this]
end V
end Go.Proofs.YtoahakdkgefgiaaGreat

namespace Go.Proofs.YtoahakdkgefgiaaGreat
namespace V
structure SbOk (s:Tx4):Prop where
  h0:0≤s.Handle
  h1:s.Handle<65536
  b0 : -9223372036854775808≤s.Bits
  b1:s.Bits<9223372036854775808
theorem app_k {α:Type} {k:Nat} {l m:List α} (hk:k≤1000) (h:l.length+m.length≤100000000000):app k l m=some (l++m):=by
  unfold app
  have:(l.length+m.length) * k≤100000000000 * 1000:=Nat.mul_le_mul h hk
  rw [if_pos ⟨by omega,by omega⟩]
theorem uattrs (F:Nat) (db:List Tx1) (hv:∀a∈db,a.Value.length≤140737488355328) (hn:db.length≤10000000) (hF:db.length+5<F):q7 F db=some db:=by
  unfold q7
  have:=iter_count (body:=fun s:List Tx1×Int=>q1j F db s.1 s.2) (fun i=>(db.take i,(i:Int))) db.length db (by
    intro i hi
    have hx:db[i]? = some db[i]:=List.getElem?_eq_getElem hi
    have hm:=hv _ (List.getElem_mem hi)
    have hq:({ db[i] with Value:=db[i].Value }:Tx1)=db[i]:=by cases db[i]; rfl
    show q1j F db (db.take i) (i:Int)=_
    unfold q1j
    rw [if_pos (dt (by rw [lN]; omega)),dN,hx,Option.bind_some,join_one F _ (by omega) hm,Option.bind_some,app_k (by decide) (by simp; omega),Option.bind_some,wN i (by omega),List.take_add_one,hx]
    rfl) (by
    show q1j F db (db.take db.length) (db.length:Int)=_
    unfold q1j
    rw [if_neg (df (by rw [lN]; omega)),List.take_length]) F 0 (by omega) (by omega)
  rw [show (([],0):List Tx1×Int)=(db.take 0,((0:Nat):Int)) from rfl,this]
  rfl
def mkS (db:List Tx1) (mx lv:Int) (rb:Bool) (aw:Int) (subs:List Tx4):Tx8:=Tx8.mk db 23 mx lv [] aw rb subs [] false 0
theorem uclone (F:Nat) (l:List Tx4) (hn:l.length≤10000000):qf F l=some l:=by
  unfold qf
  rw [app_k (by decide) (by simp; omega),Option.bind_some,List.nil_append]
theorem example_ok:q12 FF=some true:=by kernel_rfl
theorem light_ok (F:Nat) (db:List Tx1) (hn:db.length≤9000000000000000) (hF:100<F):∃b,q26 F db=some b∧(b=true→db.length≤80∧∀a∈db,a.Value.length≤4096):=by
  unfold q26
  obtain⟨o,h1,h2⟩:=iter_by (body:=fun s:Int×Int=>q1u F db s.1 s.2) (fun s=>∃i:Nat,s.2=(i:Int)∧i≤db.length∧i≤80∧∀a∈db.take i,a.Value.length≤4096)
    (fun o=>(∃n,o = .inl n∧∀a∈db.take 80,a.Value.length≤4096)∨o = .inr false) (fun s=>80 - s.2.toNat) (by
    rintro⟨n,x⟩ ⟨i,hx,hi,hi2,hall⟩
    simp only at hx
    subst hx
    show (∃s',q1u F db n (i:Int)=some (.next s')∧_)∨∃o,q1u F db n (i:Int)=some (.done o)∧_
    unfold q1u
    by_cases hin:i<db.length∧i<80
    · have hxa:db[i]? = some db[i]:=List.getElem?_eq_getElem hin.1
      generalize hq:db[i]=a at hxa
      rw [if_pos (by rw [dt (show (i:Int)<len db by rw [lN]; omega),dt (show (i:Int)<80 by omega)]; rfl),dN,hxa]
      simp only [Option.bind_some]
      by_cases hv:len a.Value > 4096
      · rw [if_pos (dt hv)]
        exact .inr ⟨_,rfl,.inr rfl⟩
      · rw [if_neg (df hv)]
        rw [lN] at hv
        refine .inl ⟨_,rfl,⟨i+1,?_,by omega,by omega,?_⟩,?_⟩
        · simp only; exact wN i (by omega)
        · intro c hc
          rw [List.take_add_one,hxa] at hc
          rcases List.mem_append.1 hc with hc | hc
          · exact hall c hc
          · simp at hc; subst hc; omega
        · simp only; rw [wN i (by omega)]; omega
    · rw [if_neg (by
        rw [Bool.and_eq_true]
        rintro⟨h1,h2⟩
        have h1:=of_decide_eq_true h1
        have h2:=of_decide_eq_true h2
        rw [lN] at h1
        omega)]
      refine .inr ⟨_,rfl,.inl ⟨_,rfl,fun a ha=>hall a ?_⟩⟩
      have e:db.take 80=db.take i:=by
        by_cases h:i<db.length
        · rw [show i=80 from by omega]
        · rw [List.take_of_length_le (by omega),List.take_of_length_le (by omega)]
      rwa [e] at ha) F (0,0) ⟨0,rfl,by omega,by omega,by simp⟩ (by simp only; omega)
  rw [h1,Option.bind_some]
  rcases h2 with ⟨n,rfl,h3⟩ | rfl
  · refine ⟨_,rfl,fun hb=>?_⟩
    simp only [Bool.and_eq_true] at hb
    have h4:=of_decide_eq_true hb.1
    rw [lN] at h4
    refine ⟨by omega,fun a ha=>h3 a ?_⟩
    rwa [List.take_of_length_le (by omega)]
  · exact⟨false,rfl,fun h=>by cases h⟩
end V
end Go.Proofs.YtoahakdkgefgiaaGreat

namespace Go.Proofs.YtoahakdkgefgiaaGreat
namespace V
end V
end Go.Proofs.YtoahakdkgefgiaaGreat

namespace Go.Proofs.YtoahakdkgefgiaaGreat
namespace V
end V
end Go.Proofs.YtoahakdkgefgiaaGreat

namespace Go.Proofs.YtoahakdkgefgiaaGreat
namespace V
structure FieldOk (f:Txb):Prop where
  s0:1≤f.Size
  s1:f.Size≤8
  v0:0≤f.Value
  v1:f.Value<18446744073709551616
  v2:f.Value<256 ^ f.Size.toNat
def rot (x:Int) (n m:Nat):Int:=ior .u32 (IntKind.u32.wrap (x * 2 ^ n)) (x.fdiv (2 ^ m))
def rnd (h:Int):Int:=ixor .u32 (wu32 (rot (wu32 (h+0)) 7 25 * 2654435761)) (rot 0 16 16)
def mx:Nat→Int×Int→Int×Int
  | 0,s=>s
  | n+1,s=>((mx n s).2,ixor .u32 (mx n s).1 (rnd (mx n s).2))
def hat (a:Tx1):List Int:=(leb 2 a.Handle++leb 8 a.fT.Low++leb 8 a.fT.High)++(if decl a.fT=true then leb 2 (a.Value.length:Int)++a.Value else [])
end V
end Go.Proofs.YtoahakdkgefgiaaGreat

namespace Go.Proofs.YtoahakdkgefgiaaGreat
namespace V
theorem upd_at {α:Type} {l:List α} {i:Nat} {x:α} (h:l[i]? = some x):upd l (i:Int) x=some l:=by
  obtain⟨h1,h2⟩:=List.getElem?_eq_some_iff.1 h
  unfold upd
  rw [if_pos ⟨by omega,by omega⟩,Int.toNat_natCast,← h2,List.set_getElem_self]
structure SvOk (s:Tx8):Prop where
  d:s.DB.length≤10000000
  dv:∀a∈s.DB,a.Value.length≤140737488355328
  q:s.Queue.length≤10000000
  qv:∀a∈s.Queue,a.Value.length≤140737488355328
  o:s.Out.length≤10000000
  ov:∀a∈s.Out,a.Value.length≤140737488355328
  sb:s.Subs.length≤10000000
theorem uof (F:Nat) (s:Tx8) (h:SvOk s) (hF:10000010<F):q1n F s=some (Txa.mk s []):=by
  obtain⟨h1,h2,h3,h4,h5,h6,h7⟩:=h
  unfold q1n
  rw [uattrs F s.DB h2 h1 (by omega),Option.bind_some,uclone F s.Subs h7,Option.bind_some]
  have e1:q11 F s.Queue=some s.Queue:=by
    unfold q11
    rw [app_k (by decide) (by simp; omega),Option.bind_some,List.nil_append]
  have e2:q20 F s.Out=some s.Out:=by
    unfold q20
    rw [app_k (by decide) (by simp; omega),Option.bind_some,List.nil_append]
  rw [e1,e2,Option.bind_some,Option.bind_some]
  show q39 F s s=_
  unfold q39
  have:=iter_count (body:=fun t:List Tx5×Int=>q1m F s t.1 t.2) (fun i=>(s.Queue,(i:Int))) s.Queue.length s.Queue (by
    intro i hi
    have hx:s.Queue[i]? = some s.Queue[i]:=List.getElem?_eq_getElem hi
    have hv:=h4 _ (List.getElem_mem hi)
    generalize s.Queue[i]=x at hx hv
    show q1m F s s.Queue (i:Int)=_
    unfold q1m
    rw [if_pos (dt (by rw [lN]; omega)),dN,hx]
    simp only [Option.bind_some]
    rw [join_one F _ (by omega) hv,Option.bind_some]
    have hu:upd s.Queue (i:Int) ({ x with Value:=x.Value }:Tx5)=some s.Queue:=upd_at hx
    rw [hu,Option.bind_some,wN i (by omega)]) (by
    show q1m F s s.Queue (s.Queue.length:Int)=_
    unfold q1m
    rw [if_neg (df (by rw [lN]; omega))]) F 0 (by omega) (by omega)
  rw [show ((0:Nat):Int)=0 from rfl] at this
  rw [this,Option.bind_some]
  unfold q4l
  have:=iter_count (body:=fun t:List Tx7×Int=>q1l F s t.1 t.2) (fun i=>(s.Out,(i:Int))) s.Out.length s.Out (by
    intro i hi
    have hx:s.Out[i]? = some s.Out[i]:=List.getElem?_eq_getElem hi
    have hv:=h6 _ (List.getElem_mem hi)
    generalize s.Out[i]=x at hx hv
    show q1l F s s.Out (i:Int)=_
    unfold q1l
    rw [if_pos (dt (by rw [lN]; omega)),dN,hx]
    simp only [Option.bind_some]
    rw [join_one F _ (by omega) hv,Option.bind_some]
    have hu:upd s.Out (i:Int) ({ x with Value:=x.Value }:Tx7)=some s.Out:=upd_at hx
    rw [hu,Option.bind_some,wN i (by omega)]) (by
    show q1l F s s.Out (s.Out.length:Int)=_
    unfold q1l
    rw [if_neg (df (by rw [lN]; omega))]) F 0 (by omega) (by omega)
  rw [show ((0:Nat):Int)=0 from rfl] at this
  rw [this,Option.bind_some]
  rfl
end V
end Go.Proofs.YtoahakdkgefgiaaGreat

namespace Go.Proofs.YtoahakdkgefgiaaGreat
namespace V
def PDU (k:Int) (h o m:Int) (c:Bool) (v:List Int):Tx7:=Tx7.mk k 0 h 0 (Tx0.mk 0 0) o m 0 c v []
def S (m:Int) (db:List Tx1) (q:List Tx5):Tx8:=Tx8.mk db m m 2 q 2 false [] [] false 0
structure RW (a:Tx1):Prop where
  r:(iand .i64 a.Perms 1 == 0)=false
  w:(iand .i64 a.Perms 2 == 0)=false
  h:isN a.fT 11050=false
  c:isN a.fT 10498=false
structure Dx (db:List Tx1) (k:Nat) (a:Tx1):Prop where
  l:db.length≤80
  v:∀b∈db,b.Value.length≤4096
  at_:db[k]? = some a
  f:fnd db a.Handle=(k:Int)
  rw:RW a
  al:a.Value.length≤512
theorem sv_ok {m:Int} {db:List Tx1} {k:Nat} {a:Tx1} (h:Dx db k a) {q:List Tx5} (hq:q.length≤16) (hv:∀x∈q,x.Value.length≤4096):SvOk (S m db q):=
  ⟨by have:=h.l; show db.length≤_; omega,fun b hb=>by have:=h.v b hb; omega,by show q.length≤_; omega,fun b hb=>by have:=hv b hb; omega,by show (0:Nat)≤_; omega,(fun b hb=>by cases hb),by show (0:Nat)≤_; omega⟩
theorem hgo (F:Nat) {s:Tx8} (h:SvOk s) (hr:s.Robust=false) (p:Tx7) (hF:10000010<F)
    (hc:(((p.Kind == 10)||(p.Kind == 12))||((p.Kind == 2)||((p.Kind == 4)||((p.Kind == 8)||((p.Kind == 16)||((p.Kind == 18)||((p.Kind == 22)||(p.Kind == 24))))))))=true) (h30:(p.Kind == 30)=false) (h82:(p.Kind == 82)=false):qi F s p 0=qq F p (Txa.mk s []) s.Aware:=by
  unfold qi
  rw [uof F s h hF,Option.bind_some]
  unfold q21
  simp only [Option.bind_some]
  rw [if_pos hc,h30,if_neg (by decide),h82,Bool.false_and,if_neg (by decide),hr,if_neg (by decide)]
theorem acc2 (F:Nat) {m:Int} {db:List Tx1} {q:List Tx5} (a:Tx1) (p c:Int) (h:(iand .i64 a.Perms p == 0)=false):q1p F (Txa.mk (S m db q) []) a p c=some 0:=by
  unfold q1p
  rw [h,if_neg (by decide)]
  rw [if_neg (by simp [S]),if_neg (by simp [S])]
theorem room_u (F:Nat) (m:Int) (h0:23≤m) (h1:m≤517):qy F 11 m=some (imin 512 (m - 1))∧qy F 13 m=some (imin 512 (m - 1)):=by
  have e:imax 23 (imin m 517)=m:=by
    unfold imax imin
    repeat' split
    all_goals omega
  have e2:w64 (m - 1)=m - 1:=w64_id (by omega) (by omega)
  constructor
  · unfold qy q2z
    rw [if_pos (by decide),if_pos (by decide),e,e2]
  · unfold qy q2z
    rw [if_neg (by decide),if_pos (by decide),e,e2]
theorem cut_ok (F:Nat) (b:List Int) (n:Nat) (hb:b.length≤4096) (hF:10000010<F):q2s F b (n:Int)=some (b.take n):=by
  unfold q2s
  have h1:imax 0 (imin (n:Int) (len b))=((min n b.length:Nat):Int):=by
    rw [lN]
    unfold imax imin
    repeat' split
    all_goals omega
  have hs:=sub_nat b 0 (min n b.length) (by omega) (by omega)
  rw [show ((0:Nat):Int)=0 from rfl] at hs
  have hl:((b.take (min n b.length)).drop 0)=b.take n:=by
    rw [List.drop_zero]
    by_cases h:n≤b.length
    · rw [Nat.min_eq_left h]
    · rw [Nat.min_eq_right (by omega),List.take_length,List.take_of_length_le (by omega)]
  rw [h1,hs,Option.bind_some,hl,join_one F _ (by omega) (by rw [List.length_take]; omega),Option.bind_some]
def rm (m:Int):Nat:=(imin 512 (m - 1)).toNat
theorem rm_eq {m:Int} (h0:23≤m):imin 512 (m - 1)=(rm m:Int):=by
  unfold rm
  rw [Int.toNat_of_nonneg]
  unfold imin
  split <;> omega
theorem rm_pos {m:Int} (h0:23≤m):22≤rm m:=by
  unfold rm imin
  split <;> omega
theorem shw_ok (F:Nat) {m:Int} {db:List Tx1} {k:Nat} {a:Tx1} (h:Dx db k a) (q:List Tx5) (hF:10000010<F):q2r F (Txa.mk (S m db q) []) (k:Int)=some a.Value:=by
  unfold q2r
  show (idx db (k:Int)).bind _=_
  rw [dN,h.at_,Option.bind_some,sis F _ _ (by decide) (by decide),h.rw.h,Option.bind_some,if_neg (by decide),sis F _ _ (by decide) (by decide),h.rw.c,Option.bind_some,if_neg (by decide),join_one F _ (by omega) (by have:=h.al; omega)]
  rfl
theorem ask_read (F:Nat) {m:Int} (h0:23≤m) (h1:m≤517) {db:List Tx1} {k:Nat} {a:Tx1} (h:Dx db k a) {q:List Tx5} (hq:q.length≤16) (hv:∀x∈q,x.Value.length≤4096) (hF:10000010<F) :
    q8 F (S m db q) (PDU 10 a.Handle 0 0 false [])=some (S m db q,PDU 11 0 0 0 false (a.Value.take (rm m)),true):=by
  have hdl:=h.l
  have hal:=h.al
  unfold q8
  rw [hgo F (sv_ok h hq hv) rfl _ hF rfl rfl rfl]
  unfold qq
  rw [if_pos (by rfl)]
  show ((qz F (Txa.mk (S m db q) []) (PDU 10 a.Handle 0 0 false [])).bind _).bind _=_
  have hr:qz F (Txa.mk (S m db q) []) (PDU 10 a.Handle 0 0 false [])=some (PDU 11 0 0 0 false (a.Value.take (rm m))):=by
    unfold qz
    show (qg F db a.Handle).bind _=_
    rw [ufind F db _ (by omega) (by omega),h.f,Option.bind_some]
    unfold q3k
    rw [if_neg (df (by omega))]
    show (idx db (k:Int)).bind _=_
    rw [dN,h.at_,Option.bind_some]
    unfold q2l
    rw [acc2 F a 1 2 h.rw.r,Option.bind_some,Option.bind_some,if_neg (by decide),shw_ok F h q hF,Option.bind_some]
    show ((some 11:Option Int)).bind _=_
    rw [Option.bind_some]
    refine (if_neg (show ¬ ((10:Int) == 12)=true by decide)).trans ?_
    unfold q30
    show (qy F 11 m).bind _=_
    rw [(room_u F m h0 h1).1,Option.bind_some,rm_eq h0,cut_ok F _ _ (by omega) hF]
    rfl
  rw [hr]
  rfl
theorem ask_blob (F:Nat) {m:Int} (h0:23≤m) (h1:m≤517) {db:List Tx1} {k:Nat} {a:Tx1} (h:Dx db k a) {q:List Tx5} (hq:q.length≤16) (hv:∀x∈q,x.Value.length≤4096) (o:Nat) (ho:o≤a.Value.length) (hF:10000010<F) :
    q8 F (S m db q) (PDU 12 a.Handle (o:Int) 0 false [])=some (S m db q,PDU 13 0 0 0 false ((a.Value.drop o).take (rm m)),true):=by
  have hdl:=h.l
  have hal:=h.al
  unfold q8
  rw [hgo F (sv_ok h hq hv) rfl _ hF rfl rfl rfl]
  unfold qq
  rw [if_pos (by rfl)]
  show ((qz F (Txa.mk (S m db q) []) (PDU 12 a.Handle (o:Int) 0 false [])).bind _).bind _=_
  have hr:qz F (Txa.mk (S m db q) []) (PDU 12 a.Handle (o:Int) 0 false [])=some (PDU 13 0 0 0 false ((a.Value.drop o).take (rm m))):=by
    unfold qz
    show (qg F db a.Handle).bind _=_
    rw [ufind F db _ (by omega) (by omega),h.f,Option.bind_some]
    unfold q3k
    rw [if_neg (df (by omega))]
    show (idx db (k:Int)).bind _=_
    rw [dN,h.at_,Option.bind_some]
    unfold q2l
    rw [acc2 F a 1 2 h.rw.r,Option.bind_some,Option.bind_some,if_neg (by decide),shw_ok F h q hF,Option.bind_some]
    show ((some 13:Option Int)).bind _=_
    rw [Option.bind_some]
    refine (if_pos rfl).trans ?_
    show (if (decide ((o:Int)<0)||decide ((o:Int) > len a.Value))=true then _ else (sub a.Value (o:Int) (len a.Value)).bind _)=_
    rw [if_neg (by
      rw [Bool.or_eq_true,not_or]
      exact⟨df (by omega),df (by rw [lN]; omega)⟩),lN,sub_nat a.Value o a.Value.length ho (by omega),List.take_length,Option.bind_some]
    unfold q30
    show (qy F 13 m).bind _=_
    rw [(room_u F m h0 h1).2,Option.bind_some,rm_eq h0,cut_ok F _ _ (by rw [List.length_drop]; omega) hF]
    rfl
  rw [hr]
  rfl
theorem take_more {v:List Int} {n r:Nat}:v.take n++(v.drop n).take r=v.take (n+r):=by
  rw [List.take_add]
theorem whole_ok (F:Nat) {m:Int} (h0:23≤m) (h1:m≤517) {db:List Tx1} {k:Nat} {a:Tx1} (h:Dx db k a) {q:List Tx5} (hq:q.length≤16) (hv:∀x∈q,x.Value.length≤4096) (hF:10000010<F) :
    q14 F (S m db q) a.Handle=some (a.Value,true):=by
  have hal:=h.al
  have hrp:=rm_pos h0
  unfold q14
  show (q8 F (S m db q) (PDU 10 a.Handle 0 0 false [])).bind _=_
  rw [ask_read F h0 h1 h hq hv hF,Option.bind_some]
  have hroom:qr F 11 m=some (rm m:Int):=by
    have e:imin (imax m 23) 517=m:=by
      unfold imax imin
      repeat' split
      all_goals omega
    unfold qr q31
    rw [if_pos (by decide),if_pos (by decide),e,w64_id (by omega) (by omega),rm_eq h0]
  show (qr F 11 m).bind _=_
  rw [hroom,Option.bind_some]
  show (app 1 ([]:List Int) (a.Value.take (rm m))).bind _=_
  rw [app_k (by decide) (by rw [List.length_take]; simp; omega),Option.bind_some,List.nil_append]
  obtain⟨o,g1,g2⟩:=iter_by (body:=fun s:Tx7×Bool×List Int=>q13 F (S m db q) a.Handle (rm m:Int) s.1 s.2.1 s.2.2)
    (fun s=>∃(c n:Nat) (w:List Int),s=(PDU ((c:Int)+11) 0 0 0 false w,true,a.Value.take n)∧n≤10000∧((w.length=rm m∧rm m≤n)∨a.Value.length≤n))
    (fun o=>∃(c:Nat) (w:List Int),o=(PDU ((c:Int)+11) 0 0 0 false w,true,a.Value)) (fun s=>if s.1.Value.length=rm m then 1000 - s.2.2.length else 0) (by
    rintro s ⟨c,n,w,rfl,hn,hw⟩
    show (∃s',q13 F (S m db q) a.Handle (rm m:Int) (PDU ((c:Int)+11) 0 0 0 false w) true (a.Value.take n)=some (.next s')∧_)∨∃o,q13 F (S m db q) a.Handle (rm m:Int) (PDU ((c:Int)+11) 0 0 0 false w) true (a.Value.take n)=some (.done o)∧_
    unfold q13
    have hk:(((c:Int)+11 != 1):Bool)=true:=bne_iff_ne.2 (by omega)
    have hl:(a.Value.take n).length=min n a.Value.length:=List.length_take
    by_cases hq2:w.length=rm m∧(a.Value.take n).length<512
    · rw [if_pos (by
        show (((true&&((c:Int)+11 != 1))&&(len w == (rm m:Int)))&&decide (len (a.Value.take n)<512))=true
        rw [hk,lN,lN,hq2.1,dt (by omega)]
        simp)]
      have ho:(a.Value.take n).length≤a.Value.length:=by rw [hl]; omega
      show (∃s',(q8 F (S m db q) (PDU 12 a.Handle ((a.Value.take n).length:Int) 0 false [])).bind _=_∧_)∨_
      rw [ask_blob F h0 h1 h hq hv _ ho hF,Option.bind_some]
      show (∃s',(app 1 (a.Value.take n) ((a.Value.drop (a.Value.take n).length).take (rm m))).bind _=_∧_)∨_
      have hcat:a.Value.take n++(a.Value.drop (a.Value.take n).length).take (rm m)=a.Value.take (min n a.Value.length+rm m):=by
        rw [hl]
        by_cases hna:n≤a.Value.length
        · rw [Nat.min_eq_left hna,take_more]
        · rw [Nat.min_eq_right (by omega),List.drop_length,List.take_nil,List.append_nil,List.take_of_length_le (by omega),List.take_of_length_le (by omega)]
      rw [app_k (by decide) (by simp only [List.length_take,List.length_drop]; omega),Option.bind_some,hcat]
      left
      refine ⟨_,rfl,⟨2,min n a.Value.length+rm m,_,rfl,?_,?_⟩,?_⟩
      · have:rm m≤512:=by unfold rm imin; split <;> omega
        omega
      · rw [hl,List.length_take,List.length_drop]
        by_cases hx:rm m≤a.Value.length - min n a.Value.length
        · left; omega
        · right; omega
      · show (if ((a.Value.drop (a.Value.take n).length).take (rm m)).length=rm m then 1000 - (a.Value.take (min n a.Value.length+rm m)).length else 0)<(if w.length=rm m then 1000 - (a.Value.take n).length else 0)
        rw [if_pos hq2.1]
        split
        · rename_i hx
          rw [hl,List.length_take,List.length_drop] at hx
          rw [List.length_take,hl]
          omega
        · omega
    · rw [if_neg (by
        show ¬ (((true&&((c:Int)+11 != 1))&&(len w == (rm m:Int)))&&decide (len (a.Value.take n)<512))=true
        rw [hk]
        simp only [Bool.true_and,Bool.and_eq_true,beq_iff_eq,decide_eq_true_eq]
        rw [lN,lN]
        omega)]
      right
      refine ⟨_,rfl,c,w,?_⟩
      have:a.Value.take n=a.Value:=by
        apply List.take_of_length_le
        rcases hw with ⟨hw1,hw2⟩ | hw
        · have:¬ (a.Value.take n).length<512:=fun hx=>hq2 ⟨hw1,hx⟩
          rw [hl] at this
          omega
        · exact hw
      rw [this]) F (PDU ((0:Nat)+11) 0 0 0 false (a.Value.take (rm m)),true,a.Value.take (rm m)) ⟨0,rm m,_,rfl,by unfold rm imin; split <;> omega,by
        rw [List.length_take]
        by_cases hx:rm m≤a.Value.length
        · left; omega
        · right; omega⟩ (by
        simp only
        split <;> omega)
  obtain⟨c,w,rfl⟩:=g2
  have g1':iter (fun s:Tx7×Bool×List Int=>q13 F (S m db q) a.Handle (rm m:Int) s.1 s.2.1 s.2.2) F (PDU 11 0 0 0 false (a.Value.take (rm m)),true,a.Value.take (rm m))=some (PDU ((c:Int)+11) 0 0 0 false w,true,a.Value):=g1
  show (iter (fun s:Tx7×Bool×List Int=>q13 F (S m db q) a.Handle (rm m:Int) s.1 s.2.1 s.2.2) F (PDU 11 0 0 0 false (a.Value.take (rm m)),true,a.Value.take (rm m))).bind _=_
  rw [g1',Option.bind_some]
  unfold q55 q54
  have hk:(((c:Int)+11 != 1):Bool)=true:=bne_iff_ne.2 (by omega)
  show some (a.Value,true&&((c:Int)+11 != 1))=_
  rw [hk]
  rfl
end V
end Go.Proofs.YtoahakdkgefgiaaGreat

namespace Go.Proofs.YtoahakdkgefgiaaGreat
namespace V
def wv (a:Tx1) (v:List Int):Tx1:={ a with Value:=v }
theorem fnd_set {db:List Tx1} {k:Nat} {a:Tx1} (h:db[k]? = some a) (v:List Int) (x:Int):fnd (db.set k (wv a v)) x=fnd db x:=by
  have e:∀l:List Tx1,l.findIdx? (fun b=>b.Handle == x)=(l.map (·.Handle)).findIdx? (fun y=>y == x):=by
    intro l
    rw [List.findIdx?_map]
    rfl
  have e2:(db.set k (wv a v)).map (·.Handle)=db.map (·.Handle):=by
    rw [List.map_set]
    apply List.ext_getElem?
    intro i
    by_cases hi:k=i
    · subst hi
      have hl:=(List.getElem?_eq_some_iff.1 h).1
      rw [List.getElem?_set_self (by rw [List.length_map]; exact hl),List.getElem?_map,h]
      rfl
    · rw [List.getElem?_set_ne hi]
  unfold fnd
  rw [e,e,e2]
theorem dx_set {db:List Tx1} {k:Nat} {a:Tx1} (h:Dx db k a) {v:List Int} (hv:v.length≤512):Dx (db.set k (wv a v)) k (wv a v):=by
  have hl:=(List.getElem?_eq_some_iff.1 h.at_).1
  refine ⟨by rw [List.length_set]; exact h.l,?_,List.getElem?_set_self hl,?_,⟨h.rw.r,h.rw.w,h.rw.h,h.rw.c⟩,hv⟩
  · intro b hb
    rcases List.mem_or_eq_of_mem_set hb with hb | rfl
    · exact h.v b hb
    · show v.length≤4096
      omega
  · show fnd _ a.Handle=_
    rw [fnd_set h.at_,h.f]
theorem wri_ok (F:Nat) {m:Int} {db:List Tx1} {k:Nat} {a:Tx1} (h:Dx db k a) (q:List Tx5) (hF:10000010<F):qw F (Txa.mk (S m db q) []) a.Handle=some ((k:Int),0,Txa.mk (S m db q) []):=by
  have hdl:=h.l
  unfold qw
  show (qg F db a.Handle).bind _=_
  rw [ufind F db _ (by omega) (by omega),h.f,Option.bind_some,if_neg (df (by omega))]
  show (idx db (k:Int)).bind _=_
  rw [dN,h.at_,Option.bind_some,acc2 F a 2 3 h.rw.w,Option.bind_some]
theorem upd_k {α:Type} {l:List α} {k:Nat} (hk:k<l.length) (x:α):upd l (k:Int) x=some (l.set k x):=by
  unfold upd
  rw [if_pos ⟨by omega,by omega⟩,Int.toNat_natCast]
theorem ask_write (F:Nat) {m:Int} {db:List Tx1} {k:Nat} {a:Tx1} (h:Dx db k a) {v:List Int} (hv:v.length≤512) (hF:10000010<F) :
    q8 F (S m db []) (PDU 18 a.Handle 0 0 false v)=some (S m (db.set k (wv a v)) [],PDU 19 0 0 0 false [],true):=by
  have hl:=(List.getElem?_eq_some_iff.1 h.at_).1
  unfold q8
  rw [hgo F (sv_ok h (by simp) (by simp)) rfl _ hF rfl rfl rfl]
  unfold qq
  have hr:qp F (Txa.mk (S m db []) []) (PDU 18 a.Handle 0 0 false v)=some (PDU 19 0 0 0 false [],Txa.mk (S m (db.set k (wv a v)) []) [a.Handle]):=by
    unfold qp
    show (qw F (Txa.mk (S m db []) []) a.Handle).bind _=_
    rw [wri_ok F h [] hF,Option.bind_some,if_neg (show ¬ ((0:Int) != 0)=true by decide)]
    show (idx db (k:Int)).bind _=_
    rw [dN,h.at_,Option.bind_some,sis F _ _ (by decide) (by decide),h.rw.c,Option.bind_some,Bool.false_and,if_neg (by decide)]
    show (idx db (k:Int)).bind _=_
    rw [dN,h.at_,Option.bind_some,sis F _ _ (by decide) (by decide),h.rw.c,Option.bind_some,if_neg (by decide)]
    show (q6 F [v]).bind _=_
    rw [join_one F _ (by omega) (by omega),Option.bind_some]
    show (idx db (k:Int)).bind _=_
    rw [dN,h.at_,Option.bind_some]
    show (idx db (k:Int)).bind _=_
    rw [dN,h.at_,Option.bind_some]
    show (upd db (k:Int) (wv a v)).bind _=_
    rw [upd_k hl,Option.bind_some]
    rfl
  show ((if (((18:Int) == 10)||((18:Int) == 12))=true then _ else if ((18:Int) == 2)=true then _ else if ((18:Int) == 4)=true then _ else if ((18:Int) == 8)=true then _ else if ((18:Int) == 16)=true then _ else if ((18:Int) == 18)=true then (qp F (Txa.mk (S m db []) []) (PDU 18 a.Handle 0 0 false v)).bind _ else _):Option _).bind _=_
  rw [hr]
  rfl
theorem ask_mtu (F:Nat) {m:Int} (h0:23≤m) (h1:m≤517) {db:List Tx1} {k:Nat} {a:Tx1} (h:Dx db k a) (hF:10000010<F) :
    q8 F (mkS db m 2 false 2 []) (PDU 2 0 0 517 false [])=some (S m db [],PDU 3 0 0 m false [],true):=by
  have hsv:SvOk (mkS db m 2 false 2 []):=⟨by have:=h.l; show db.length≤_; omega,fun b hb=>by have:=h.v b hb; omega,by show (0:Nat)≤_; omega,(fun b hb=>by cases hb),by show (0:Nat)≤_; omega,(fun b hb=>by cases hb),by show (0:Nat)≤_; omega⟩
  have e:imin 517 m=m:=by unfold imin; split <;> omega
  unfold q8
  rw [hgo F hsv rfl _ hF rfl rfl rfl]
  have:qq F (PDU 2 0 0 517 false []) (Txa.mk (mkS db m 2 false 2 []) []) 2=some ({ S m db [] with MTU:=imin 517 m },[PDU 3 0 0 m false []],[]):=rfl
  show (qq F (PDU 2 0 0 517 false []) (Txa.mk (mkS db m 2 false 2 []) []) 2).bind _=_
  rw [this,e]
  rfl
def part (R:Nat) (v:List Int) (h:Int) (i:Nat):Tx5:=Tx5.mk h ((i * R:Nat):Int) ((v.take (min ((i+1) * R) v.length)).drop (i * R))
def parts (R:Nat) (v:List Int) (h:Int) (n:Nat):List Tx5:=(List.range n).map (part R v h)
theorem parts_succ (R:Nat) (v:List Int) (h:Int) (n:Nat):parts R v h (n+1)=parts R v h n++[part R v h n]:=by
  unfold parts
  rw [List.range_succ,List.map_append]
  rfl
theorem parts_len (R:Nat) (v:List Int) (h:Int) (n:Nat):(parts R v h n).length=n:=by simp [parts]
theorem part_len {R:Nat} {v:List Int} {h:Int} {i:Nat} (hv:v.length≤512):(part R v h i).Value.length≤512:=by
  show ((v.take _).drop _).length≤512
  rw [List.length_drop,List.length_take]
  omega
theorem parts_val {R:Nat} {v:List Int} {h:Int} {n:Nat} (hv:v.length≤512):∀x∈parts R v h n,x.Value.length≤4096:=by
  intro x hx
  unfold parts at hx
  obtain⟨i,_,rfl⟩:=List.mem_map.1 hx
  have:=part_len (R:=R) (v:=v) (h:=h) (i:=i) hv
  omega
theorem ask_prep (F:Nat) {m:Int} {db:List Tx1} {k:Nat} {a:Tx1} (h:Dx db k a) {R:Nat} {v:List Int} (hv:v.length≤512) {i:Nat} (hi:i<16) (hF:10000010<F) :
    ∃p,q8 F (S m db (parts R v a.Handle i)) (PDU 22 a.Handle ((i * R:Nat):Int) 0 false (part R v a.Handle i).Value)=some (S m db (parts R v a.Handle (i+1)),p,true)∧p.Kind=23:=by
  have hpl:=part_len (R:=R) (v:=v) (h:=a.Handle) (i:=i) hv
  have hql:=parts_len R v a.Handle i
  have hqv:=parts_val (R:=R) (h:=a.Handle) (n:=i) hv
  rw [parts_succ]
  have hpart:part R v a.Handle i=Tx5.mk a.Handle ((i * R:Nat):Int) (part R v a.Handle i).Value:=rfl
  generalize hw:(part R v a.Handle i).Value=w at hpl hpart
  rw [hpart]
  generalize parts R v a.Handle i=q at hql hqv
  generalize ((i * R:Nat):Int)=o
  unfold q8
  rw [hgo F (sv_ok h (by omega) hqv) rfl _ hF rfl rfl rfl]
  unfold qq
  have hr:q22 F (Txa.mk (S m db q) []) (PDU 22 a.Handle o 0 false w)=some (PDU 23 a.Handle o 0 false w,Txa.mk (S m db (q++[Tx5.mk a.Handle o w])) []):=by
    unfold q22
    show (qw F (Txa.mk (S m db q) []) a.Handle).bind _=_
    rw [wri_ok F h q hF,Option.bind_some,if_neg (show ¬ ((0:Int) != 0)=true by decide)]
    show (idx db (k:Int)).bind _=_
    rw [dN,h.at_,Option.bind_some,sis F _ _ (by decide) (by decide),h.rw.c,Option.bind_some,if_neg (by decide)]
    show (if decide (len q≥16)=true then _ else (q6 F [w]).bind _)=_
    rw [if_neg (df (by rw [lN]; omega)),join_one F _ (by omega) (by omega),Option.bind_some]
    show (app 40 q [Tx5.mk a.Handle o w]).bind _=_
    rw [app_k (by decide) (by simp; omega),Option.bind_some]
    unfold q4y
    show (q6 F [w]).bind _=_
    rw [join_one F _ (by omega) (by omega),Option.bind_some]
    rfl
  refine ⟨PDU 23 a.Handle o 0 false w,?_,rfl⟩
  show ((if (((22:Int) == 10)||((22:Int) == 12))=true then _ else if ((22:Int) == 2)=true then _ else if ((22:Int) == 4)=true then _ else if ((22:Int) == 8)=true then _ else if ((22:Int) == 16)=true then _ else if ((22:Int) == 18)=true then _ else if ((22:Int) == 22)=true then (q22 F (Txa.mk (S m db q) []) (PDU 22 a.Handle o 0 false w)).bind _ else _):Option _).bind _=_
  rw [hr]
  rfl
def cur (R:Nat) (v:List Int) (a:Tx1) (i:Nat):List Int:=if i=0 then a.Value else v.take (min (i * R) v.length)
def dbi (db:List Tx1) (k R:Nat) (v:List Int) (a:Tx1) (i:Nat):List Tx1:=db.set k (wv a (cur R v a i))
theorem ask_exec (F:Nat) {m:Int} {db:List Tx1} {k:Nat} {a:Tx1} (h:Dx db k a) {R:Nat} {v:List Int} (hv:v.length≤512) {n:Nat} (hn:n≤16) (hn1:1≤n) (hp:∀i,i<n→i=0∨i * R<v.length) (he:v.length≤n * R) (hF:10000010<F) :
    q8 F (S m db (parts R v a.Handle n)) (PDU 24 0 0 0 true [])=some (S m (db.set k (wv a v)) [],PDU 25 0 0 0 false [],true):=by
  have hal:=h.al
  have hdl:=h.l
  have hl:=(List.getElem?_eq_some_iff.1 h.at_).1
  have hql:=parts_len R v a.Handle n
  have hqv:=parts_val (R:=R) (h:=a.Handle) (n:=n) hv
  have hqi:∀i,i<n→(parts R v a.Handle n)[i]? = some (part R v a.Handle i):=by
    intro i hi
    unfold parts
    rw [List.getElem?_map,List.getElem?_range hi]
    rfl
  obtain⟨q,hq⟩:∃q,q=parts R v a.Handle n:=⟨_,rfl⟩
  rw [← hq] at hql hqv hqi ⊢
  clear hq
  unfold q8
  rw [hgo F (sv_ok h (by omega) hqv) rfl _ hF rfl rfl rfl]
  unfold qq
  have hcur:∀i,(cur R v a i).length≤512:=by
    intro i
    unfold cur
    split
    · exact hal
    · rw [List.length_take]; omega
  have hdb0:db=dbi db k R v a 0:=by
    unfold dbi cur
    rw [if_pos rfl]
    have:wv a a.Value=a:=rfl
    rw [this]
    exact ((List.set_getElem_self hl).symm.trans (by rw [(List.getElem?_eq_some_iff.1 h.at_).2]))
  have hr:∃w,q24 F (Txa.mk (S m db q) []) (PDU 24 0 0 0 true [])=some (PDU 25 0 0 0 false [],Txa.mk (S m (db.set k (wv a v)) []) w):=by
    unfold q24
    show ∃w,(if (!true)=true then _ else (q7 F db).bind _)=_
    rw [if_neg (show ¬ (!true)=true by decide)]
    rw [uattrs F db (fun b hb=>by have:=h.v b hb; omega) (by omega) (by omega),Option.bind_some]
    obtain⟨o,g1,g2⟩:=iter_by (body:=fun s:List Tx1×List Int×Int=>q23 F (Txa.mk (S m db q) []) (PDU 24 0 0 0 true []) s.1 s.2.1 s.2.2) (fun s=>∃(i:Nat) (w:List Int),s=(dbi db k R v a i,w,(i:Int))∧i≤n∧w.length≤i)
      (fun o=>∃w,o = .inl (dbi db k R v a n,w)) (fun s=>n - s.2.2.toNat) (by
      rintro s ⟨i,w,rfl,hi,hw⟩
      show (∃s',q23 F (Txa.mk (S m db q) []) (PDU 24 0 0 0 true []) (dbi db k R v a i) w (i:Int)=some (.next s')∧_)∨∃o,q23 F (Txa.mk (S m db q) []) (PDU 24 0 0 0 true []) (dbi db k R v a i) w (i:Int)=some (.done o)∧_
      unfold q23
      show (∃s',(if decide ((i:Int)<len q)=true then (idx q (i:Int)).bind _ else _)=_∧_)∨∃o,(if decide ((i:Int)<len q)=true then (idx q (i:Int)).bind _ else _)=_∧_
      by_cases hin:i<n
      · have hd:=dx_set h (hcur i)
        have hf:fnd (dbi db k R v a i) a.Handle=(k:Int):=hd.f
        have hat:(dbi db k R v a i)[k]? = some (wv a (cur R v a i)):=hd.at_
        have hdil:(dbi db k R v a i).length≤80:=hd.l
        have hkl:k<(dbi db k R v a i).length:=(List.getElem?_eq_some_iff.1 hat).1
        have hset:∀x,(dbi db k R v a i).set k x=db.set k x:=fun x=>by unfold dbi; rw [List.set_set]
        have hoff:i * R≤(cur R v a i).length:=by
          unfold cur
          rcases hp i hin with h0 | h0
          · rw [h0]; simp
          · split
            · rename_i e; rw [e]; simp
            · rw [List.length_take]; omega
        have htk:(cur R v a i).take (i * R)++(part R v a.Handle i).Value=v.take (min ((i+1) * R) v.length):=by
          have e1:(i+1) * R=i * R+R:=Nat.succ_mul i R
          show (cur R v a i).take (i * R)++(v.take (min ((i+1) * R) v.length)).drop (i * R)=_
          have e2:(cur R v a i).take (i * R)=(v.take (min ((i+1) * R) v.length)).take (i * R):=by
            unfold cur
            by_cases h0:i=0
            · rw [h0]; simp
            · rw [if_neg h0]
              rcases hp i hin with h1 | h1
              · exact absurd h1 h0
              · rw [List.take_take,List.take_take]
                congr 1
                omega
          rw [e2,List.take_append_drop]
        rw [if_pos (dt (by rw [lN,hql]; omega)),dN,hqi i hin,Option.bind_some]
        have hps:(part R v a.Handle i).Value.length≤512:=part_len hv
        have hsum:i * R+(part R v a.Handle i).Value.length≤512:=by
          have:=congrArg List.length htk
          rw [List.length_append,List.length_take,List.length_take] at this
          omega
        generalize hpv:(part R v a.Handle i).Value=pv at hps hsum htk
        have hpe:part R v a.Handle i=Tx5.mk a.Handle ((i * R:Nat):Int) pv:=by rw [← hpv]; rfl
        rw [hpe]
        show (∃s',(qg F (dbi db k R v a i) a.Handle).bind _=_∧_)∨∃o,(qg F (dbi db k R v a i) a.Handle).bind _=_∧_
        rw [ufind F _ _ (by omega) (by omega),hf,Option.bind_some,if_neg (df (by omega)),dN,hat]
        simp only [Option.bind_some]
        generalize hcv:cur R v a i=cv at hoff htk
        have hcl:cv.length≤512:=by rw [← hcv]; exact hcur i
        rw [if_neg (by
          show ¬ (decide (((i * R:Nat):Int)<0)||decide (((i * R:Nat):Int) > len cv))=true
          rw [Bool.or_eq_true,not_or]
          exact⟨df (by omega),df (by rw [lN]; omega)⟩),if_neg (df (by rw [lN,w64_id (by omega) (by omega)]; omega))]
        have hs:=sub_nat cv 0 (i * R) (by omega) hoff
        rw [show ((0:Nat):Int)=0 from rfl,List.drop_zero] at hs
        show (∃s',(sub cv 0 ((i * R:Nat):Int)).bind _=_∧_)∨∃o,(sub cv 0 ((i * R:Nat):Int)).bind _=_∧_
        rw [hs,Option.bind_some,join_two F _ _ (by omega) (by rw [List.length_take]; omega),Option.bind_some,htk,upd_k hkl,Option.bind_some,hset,contains_ok F w _ (by omega) (by omega),Option.bind_some]
        have hnx:db.set k ({ wv a cv with Value:=v.take (min ((i+1) * R) v.length) }:Tx1)=dbi db k R v a (i+1):=by
          unfold dbi cur
          rw [if_neg (by omega)]
          rfl
        rw [hnx]
        unfold q3m
        left
        split
        · rw [app_k (by decide) (by simp; omega),Option.bind_some]
          exact⟨_,rfl,⟨i+1,_,by rw [wN i (by omega)],by omega,by simp; omega⟩,by simp only; rw [wN i (by omega)]; omega⟩
        · exact⟨_,rfl,⟨i+1,w,by rw [wN i (by omega)],by omega,by omega⟩,by simp only; rw [wN i (by omega)]; omega⟩
      · rw [if_neg (df (by rw [lN,hql]; omega))]
        have:i=n:=by omega
        subst this
        exact .inr ⟨_,rfl,w,rfl⟩) F (db,[],0) ⟨0,[],by rw [← hdb0]; rfl,by omega,by simp⟩ (by simp only; omega)
    rw [g1,Option.bind_some]
    obtain⟨w,rfl⟩:=g2
    have hfin:dbi db k R v a n=db.set k (wv a v):=by
      unfold dbi cur
      rw [if_neg (by omega),Nat.min_eq_right he,List.take_length]
    refine ⟨w,?_⟩
    show q4z F (Txa.mk (S m db q) []) (dbi db k R v a n) w=_
    rw [hfin]
    rfl
  obtain⟨w,hr⟩:=hr
  show ((if (((24:Int) == 10)||((24:Int) == 12))=true then _ else if ((24:Int) == 2)=true then _ else if ((24:Int) == 4)=true then _ else if ((24:Int) == 8)=true then _ else if ((24:Int) == 16)=true then _ else if ((24:Int) == 18)=true then _ else if ((24:Int) == 22)=true then _ else if ((24:Int) == 24)=true then (q24 F (Txa.mk (S m db q) []) (PDU 24 0 0 0 true [])).bind _ else _):Option _).bind _=_
  rw [hr]
  rfl
end V
end Go.Proofs.YtoahakdkgefgiaaGreat

namespace Go.Proofs.YtoahakdkgefgiaaGreat
namespace V
theorem perm3 {p:Int} (h0:0≤p) (h1:p≤15) (h:iand .i64 p 3=3):(iand .i64 p 1 == 0)=false∧(iand .i64 p 2 == 0)=false:=by
  have key:∀n:Fin 16,iand .i64 (n.val:Int) 3=3→(iand .i64 (n.val:Int) 1 == 0)=false∧(iand .i64 (n.val:Int) 2 == 0)=false:=by decide +kernel
  have:=key ⟨p.toNat,by omega⟩
  rw [show ((⟨p.toNat,by omega⟩:Fin 16).val:Int)=p from by show (p.toNat:Int)=p; omega] at this
  exact this h
theorem new0 (F:Nat) {db:List Tx1} (hdb:∀a∈db,AOk a) (m:Int) (h0:23≤m) (h1:m≤517) (hn:db.length≤80) (hc:qn F db=some 0) (hF:10000010<F):q1k F db m 2 false 2 []=some (mkS db m 2 false 2 [],0):=by
  obtain⟨e,e1,e2⟩:=check_same F db hdb (by omega) (by omega)
  rw [hc] at e2
  injection e2 with e2
  subst e2
  unfold q1k
  rw [e1,Option.bind_some,if_neg (by decide),if_neg (by simp; omega)]
  match F,hF with
  | F+1,hF=>
  rw [iter_stop (o:=.inl ()) (by
    show q2v (F+1) db [] 0 0=_
    unfold q2v
    rw [if_neg (df (by decide))]),Option.bind_some]
  show q38 (F+1) db m 2 false 2 []=_
  unfold q38
  rw [uattrs (F+1) db (fun a ha=>(hdb a ha).l) (by omega) (by omega),uclone (F+1) [] (by simp)]
  rfl
theorem room22 (F:Nat) (m:Int) (h0:23≤m) (h1:m≤517):qr F 22 m=some (imin 512 (m - 5)):=by
  have e:imin (imax m 23) 517=m:=by
    unfold imax imin
    repeat' split
    all_goals omega
  unfold qr q31 q2t q3p
  rw [if_neg (by decide),if_neg (by decide),if_neg (by decide),if_neg (by decide),if_neg (by decide),if_neg (by decide),if_pos (by decide),if_pos (by decide),e,w64_id (by omega) (by omega)]
theorem writes_j2 {m:Int} (h0:23≤m) (h1:m≤517) {db:List Tx1} {k:Nat} {a:Tx1} (h:Dx db k a) {v:List Int} (hv:v.length≤512):q32 FF v a (S m (db.set k (wv a v)) []) true=some true:=by
  have hFF:FF=1125899906842624:=rfl
  unfold q32
  have hw:=whole_ok FF h0 h1 (dx_set h hv) (q:=[]) (by simp) (by simp) (by omega)
  have hw':q14 FF (S m (db.set k (wv a v)) []) a.Handle=some (v,true):=hw
  rw [hw',Option.bind_some]
  show ((if (true&&true)=true then _ else _):Option Bool).bind _=_
  rw [if_pos (show (true&&true)=true from rfl)]
  show ((qm FF v v).bind _).bind _=_
  rw [same_refl,Option.bind_some,Option.bind_some,if_pos rfl,example_ok]
  rfl
theorem writes_law (db:List Tx1) (at_:Int) (v:List Int) (m:Int) (lg:Bool) (hdb:∀a∈db,AOk a) (hn:db.length≤140737488355328) (ha0:0≤at_) (ha1:at_<256):q25 FF db at_ v m lg=some true:=by
  have hFF:FF=1125899906842624:=rfl
  obtain⟨b,g1,g2⟩:=light_ok FF db (by omega) (by decide)
  unfold q25
  rw [g1,Option.bind_some]
  obtain⟨e,_,he⟩:=check_same FF db hdb (by omega) (by omega)
  by_cases hq:(((((!b)||((len db) == 0))||(decide ((len v) > 512)))||(decide (m<23)))||(decide (m > 517)))=true
  · rw [if_pos hq,Option.bind_some,if_pos rfl,example_ok]; rfl
  rw [if_neg hq,he,Option.bind_some,Option.bind_some]
  simp only [Bool.or_eq_true,Bool.not_eq_true',decide_eq_true_eq,not_or,Bool.not_eq_false,beq_iff_eq] at hq
  obtain⟨⟨⟨⟨q1,q2⟩,q3⟩,q4⟩,q5⟩:=hq
  rw [lN] at q2 q3
  obtain⟨m1,v1⟩:=g2 q1
  by_cases he0:(e != 0)=true
  · rw [if_pos he0,example_ok]; rfl
  rw [if_neg he0]
  have he1:e=0:=by simpa using he0
  subst he1
  have hg:=rcheck_all FF db hdb (by omega) (by omega) he
  obtain⟨hinc,_,_⟩:=rcheck_good FF db hdb (by omega) (by omega) he
  obtain⟨k,hk,hkl⟩:∃k:Nat,irem (w64 at_) (len db)=some (k:Int)∧k<db.length:=by
    refine ⟨(at_ % (db.length:Int)).toNat,?_,?_⟩
    · unfold irem
      have:=Int.emod_nonneg at_ q2
      rw [lN,if_neg q2,w64_id (by omega) (by omega),Int.tmod_eq_emod_of_nonneg ha0,Int.toNat_of_nonneg this]
    · have:=Int.emod_lt_of_pos at_ (show (0:Int)<db.length by omega)
      omega
  have hx:db[k]? = some db[k]:=List.getElem?_eq_getElem hkl
  generalize db[k]=a at hx
  rw [hk,Option.bind_some,dN,hx,Option.bind_some]
  have hex:q1t FF db v m lg a true=some true:=by
    unfold q1t
    rw [if_pos rfl,example_ok]; rfl
  by_cases hp:(iand .i64 a.Perms 3 != 3)=true
  · rw [if_pos hp,hex]
  rw [if_neg hp,rshort FF _ (by decide) (by decide),Option.bind_some]
  have hp3:iand .i64 a.Perms 3=3:=by simpa using hp
  cases hh:isN a.fT 11050 with
  | true=>
    rw [if_pos (by exact hh),hex]
  | false=>
  rw [if_neg (by
    intro hc
    have:isN a.fT 11050=true:=hc
    rw [hh] at this
    cases this),rshort FF _ (by decide) (by decide),Option.bind_some]
  show q1t FF db v m lg a (isN a.fT 10498)=_
  cases hc:isN a.fT 10498 with
  | true=>rw [hex]
  | false=>
  obtain⟨p0,p1,p2,_⟩:=hg.g k a hx
  obtain⟨r1,r2⟩:=perm3 p0 p1 hp3
  have hd:Dx db k a:=⟨m1,v1,hx,fnd_at hinc hx,⟨r1,r2,hh,hc⟩,p2⟩
  have h0:23≤m:=by omega
  have h1:m≤517:=by omega
  unfold q1t
  rw [if_neg (by decide),new0 FF hdb m h0 h1 m1 he (by omega),Option.bind_some]
  show (q8 FF (mkS db m 2 false 2 []) (PDU 2 0 0 517 false [])).bind _=_
  rw [ask_mtu FF h0 h1 hd (by omega),Option.bind_some]
  rw [if_neg (by
    show ¬ ((((((0:Int) != 0)||(!true))||((3:Int) != 3))||(m != m))||(m != m))=true
    simp)]
  cases lg with
  | false=>
    rw [if_neg (by decide)]
    show (q8 FF (S m db []) (PDU 18 a.Handle 0 0 false v)).bind _=_
    rw [ask_write FF hd (by omega) (by omega),Option.bind_some]
    exact writes_j2 h0 h1 hd (by omega)
  | true=>
    rw [if_pos rfl,room22 FF m h0 h1,Option.bind_some]
    obtain⟨R,hR,hR0,hR1,hR2⟩:∃R:Nat,imax (imin 512 (m - 5)) (quop .i64 (w64 (len v+14)) 15)=(R:Int)∧1≤R∧v.length≤15 * R∧R≤512:=by
      have hqq:quop .i64 (w64 (len v+14)) 15=((v.length+14) / 15:Nat):=by
        unfold quop
        rw [lN,w64_id (by omega) (by omega),Int.tdiv_eq_ediv_of_nonneg (by omega),wrap_i64,w64_id (by omega) (by omega)]
        omega
      rw [hqq]
      refine ⟨(imax (imin 512 (m - 5)) (((v.length+14) / 15:Nat):Int)).toNat,?_,?_,?_,?_⟩
      · rw [Int.toNat_of_nonneg]
        unfold imax imin
        repeat' split
        all_goals omega
      · unfold imax imin
        repeat' split
        all_goals omega
      · unfold imax imin
        repeat' split
        all_goals omega
      · unfold imax imin
        repeat' split
        all_goals omega
    obtain⟨o,o1,o2⟩:=iter_by (body:=fun s:Tx8×Tx7×Int=>q1s FF v a (imin 512 (m - 5)) s.1 s.2.1 s.2.2)
      (fun s=>∃(i:Nat) (c:Tx7),s=(S m db (parts R v a.Handle i),c,((i * R:Nat):Int))∧(i=0∨(i - 1) * R<v.length∨i=1)∧∀j,j<i→j=0∨j * R<v.length)
      (fun o=>∃(n:Nat) (c:Tx7),o = .inl (S m db (parts R v a.Handle n),c)∧1≤n∧n≤16∧(∀j,j<n→j=0∨j * R<v.length)∧v.length≤n * R) (fun s=>2000 - s.2.2.toNat) (by
      rintro s ⟨i,c,rfl,hi,hj⟩
      show (∃s',q1s FF v a (imin 512 (m - 5)) (S m db (parts R v a.Handle i)) c ((i * R:Nat):Int)=some (.next s')∧_)∨∃o,q1s FF v a (imin 512 (m - 5)) (S m db (parts R v a.Handle i)) c ((i * R:Nat):Int)=some (.done o)∧_
      unfold q1s
      rw [hR]
      have hsm:(i+1) * R=i * R+R:=Nat.succ_mul i R
      by_cases hgo:i=0∨i * R<v.length
      · have hi16:i<16:=by
          rcases hgo with h | h
          · omega
          · have h2:i * R<15 * R:=by omega
            have:=Nat.lt_of_mul_lt_mul_right h2
            omega
        have hir:i * R≤v.length:=by
          rcases hgo with h | h
          · rw [h]; simp
          · omega
        rw [if_pos (by
          rw [Bool.or_eq_true]
          rcases hgo with h | h
          · left; rw [h]; simp
          · right; exact dt (by rw [lN]; omega))]
        have hmin:imin (w64 (((i * R:Nat):Int)+(R:Int))) (len v)=((min ((i+1) * R) v.length:Nat):Int):=by
          rw [w64_id (by omega) (by omega),lN,hsm]
          unfold imin
          split <;> omega
        rw [hmin,sub_nat v (i * R) _ (by omega) (by omega),Option.bind_some]
        obtain⟨p,k1,k2⟩:=ask_prep FF hd (m:=m) (R:=R) (v:=v) (by omega) hi16 (by omega)
        show (∃s',(q8 FF (S m db (parts R v a.Handle i)) (PDU 22 a.Handle ((i * R:Nat):Int) 0 false (part R v a.Handle i).Value)).bind _=_∧_)∨∃o,(q8 FF (S m db (parts R v a.Handle i)) (PDU 22 a.Handle ((i * R:Nat):Int) 0 false (part R v a.Handle i).Value)).bind _=_∧_
        rw [k1,Option.bind_some]
        unfold q56
        rw [hR]
        left
        refine ⟨_,if_neg (by
          show ¬ ((!true)||(p.Kind != 23))=true
          rw [k2]; decide),⟨i+1,p,?_,?_,?_⟩,?_⟩
        · have:w64 (((i * R:Nat):Int)+(R:Int))=(((i+1) * R:Nat):Int):=by
            rw [w64_id (by omega) (by omega),hsm]
            omega
          simp only
          rw [this]
        · simp only [Nat.add_sub_cancel]
          rcases hgo with h | h
          · right; right; omega
          · right; left; exact h
        · intro j hj2
          by_cases hji:j<i
          · exact hj j hji
          · have:j=i:=by omega
            rw [this]
            exact hgo
        · simp only
          rw [w64_id (by omega) (by omega)]
          omega
      · rw [if_neg (by
          rw [Bool.or_eq_true,not_or]
          refine ⟨?_,df (by rw [lN]; omega)⟩
          intro h
          have h:((i * R:Nat):Int)=0:=by simpa using h
          have hz:i * R=0:=by omega
          rcases Nat.mul_eq_zero.1 hz with h | h
          · omega
          · omega)]
        right
        have hn16:i≤16:=by
          rcases hi with h | h | h
          · omega
          · have h2:(i - 1) * R<15 * R:=by omega
            have:=Nat.lt_of_mul_lt_mul_right h2
            omega
          · omega
        exact⟨_,rfl,i,c,rfl,by omega,hn16,hj,by omega⟩) FF (S m db [],PDU 3 0 0 m false [],0) ⟨0,PDU 3 0 0 m false [],by rw [Nat.zero_mul]; rfl,.inl rfl,by intro j hj; omega⟩ (by simp only; omega)
    show (iter (fun s:Tx8×Tx7×Int=>q1s FF v a (imin 512 (m - 5)) s.1 s.2.1 s.2.2) FF (S m db [],PDU 3 0 0 m false [],0)).bind _=_
    rw [o1,Option.bind_some]
    obtain⟨n,c,rfl,n1,n2,n3,n4⟩:=o2
    show q3q FF v a (S m db (parts R v a.Handle n)) c=_
    unfold q3q
    rw [whole_ok FF h0 h1 hd (by rw [parts_len]; omega) (parts_val (by omega)) (by omega),Option.bind_some]
    show ((if (!true)=true then _ else (qm FF a.Value a.Value).bind _):Option Bool).bind _=_
    rw [if_neg (by decide),same_refl,Option.bind_some,Option.bind_some,if_neg (by decide)]
    show (q8 FF (S m db (parts R v a.Handle n)) (PDU 24 0 0 0 true [])).bind _=_
    rw [ask_exec FF hd (by omega) n2 n1 n3 n4 (by omega),Option.bind_some]
    exact writes_j2 h0 h1 hd (by omega)
end V
end Go.Proofs.YtoahakdkgefgiaaGreat
