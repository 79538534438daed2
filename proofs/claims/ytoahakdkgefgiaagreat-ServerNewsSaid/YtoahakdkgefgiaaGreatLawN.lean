/- Numbers and bytes of chapter 43: Put and Num of the referenc -/
import Derived.Test.YtoahakdkgefgiaaGreatLoop
import Derived.Test.YtoahakdkgefgiaaGreatFn
import Derived.KernelRfl
namespace Go.Proofs.YtoahakdkgefgiaaGreat
namespace V
def FF:Nat:=1125899906842624
def Byte (x:Int):Prop:=0≤x∧x<256
def num:List Int→Int
  | []=>0
  | b::r=>b+256 * num r
theorem pow_succ256 (k:Nat):(256:Int) ^ (k+1)=256 * 256 ^ k:=by rw [Int.pow_succ,Int.mul_comm]
theorem num_nonneg:∀{l:List Int},(∀x∈l,Byte x)→0≤num l
  | [],_=>by simp [num]
  | b::r,h=>by
    have h1:=(h b (by simp)).1
    have h2:=num_nonneg (l:=r) fun x hx=>h x (by simp [hx])
    simp only [num]; omega
theorem num_lt:∀{l:List Int},(∀x∈l,Byte x)→num l<256 ^ l.length
  | [],_=>by simp [num]
  | b::r,h=>by
    have h1:=(h b (by simp)).2
    have h2:=num_lt (l:=r) fun x hx=>h x (by simp [hx])
    simp only [num,List.length_cons,pow_succ256]; omega
theorem num_append:∀(l m:List Int),num (l++m)=num l+256 ^ l.length * num m
  | [],m=>by simp [num]
  | b::r,m=>by
    simp only [List.cons_append,num,List.length_cons,pow_succ256,num_append r m,Int.mul_add,Int.mul_assoc]
    omega
theorem app_cat {l m:List Int} (h:l.length+m.length≤140737488355328):app 1 l m=some (l++m):=by
  rw [app_small (by omega) (by omega)]
theorem rnum_ok (F:Nat) (b m:List Int) (at_:Nat) (hF:m.length<F) (hb:∀x∈m,Byte x) (hm:m.length≤8) (hat:at_≤1000000) (h:∀i,i<m.length→b[at_+i]? = m[i]?):wirelessref23_Num F b at_ (m.length:Int)=some (num m):=by
  have key:∀(k f:Nat) (r:List Int),r.length+k=m.length→(∀i,i<r.length→m[k+i]? = r[i]?)→k<f→iter (fun s=>wirelessref23_Num_l1 F b at_ s.1 s.2) f (num r,(k:Int) - 1)=some (num (m.take k++r)):=by
    intro k
    induction k with
    | zero=>
      intro f r hr _ hf
      cases f with
      | zero=>omega
      | succ f=>
        rw [iter_stop (o:=num r) (by unfold wirelessref23_Num_l1; rw [if_neg (by simp)])]
        simp
    | succ k ih=>
      intro f r hr hri hf
      cases f with
      | zero=>omega
      | succ f=>
        have hk:k<m.length:=by omega
        have hx:m[k]? = some m[k]:=List.getElem?_eq_getElem hk
        have hbx:=hb m[k] (List.getElem_mem hk)
        have hrb:∀x∈r,Byte x:=by
          intro x hx
          obtain⟨i,hi⟩:=List.getElem?_of_mem hx
          have hil:=(List.getElem?_eq_some_iff.1 hi).1
          rw [← hri i hil] at hi
          exact hb x (List.mem_of_getElem? hi)
        have hn0:=num_nonneg hrb
        have hn1:=num_lt hrb
        have hpow:(256:Int) ^ r.length≤256 ^ 7:=by
          have h2:(256:Nat) ^ r.length≤256 ^ 7:=Nat.pow_le_pow_right (by decide) (by omega)
          have h3:((256 ^ r.length:Nat):Int)≤((256 ^ 7:Nat):Int):=Int.ofNat_le.2 h2
          rw [Int.natCast_pow,Int.natCast_pow] at h3
          exact h3
        have hidx:idx b (w64 ((at_:Int)+((k+1:Nat) - 1:Int)))=some m[k]:=by
          rw [show (at_:Int)+(((k+1:Nat):Int) - 1)=((at_+k:Nat):Int) from by omega,w64_id (by omega) (by omega),idx_nat,h k hk,hx]
        have hstep:wirelessref23_Num_l1 F b at_ (num r) (((k+1:Nat):Int) - 1)=some (.next (num (m[k]::r),(k:Int) - 1)):=by
          unfold wirelessref23_Num_l1
          rw [if_pos (by simp),hidx]
          simp only [Option.bind_some,num]
          obtain⟨hb0,hb1⟩:=hbx
          rw [wu64_id (x:=num r * 256) (by omega) (by omega),wu64_id (x:=m[k]) (by omega) (by omega),wu64_id (by omega) (by omega),w64_id (by omega) (by omega)]
          congr 3 <;> omega
        rw [iter_step hstep,ih f (m[k]::r) (by simp; omega) (by
          intro i hi
          cases i with
          | zero=>simp
          | succ i=>
            have:=hri i (by simp at hi; omega)
            rw [show k+(i+1)=k+1+i from by omega]
            simpa using this) (by omega)]
        rw [List.take_add_one,hx,List.append_assoc]
        rfl
  unfold wirelessref23_Num
  rw [w64_id (by omega) (by omega)]
  have:=key m.length F [] (by simp) (by simp) hF
  simp only [num,List.take_length,List.append_nil] at this
  rw [this]
  rfl
theorem same_refl (F:Nat) (l:List Int):wirelessref23_Same F l l=some true:=by simp [wirelessref23_Same]
theorem join_step (F:Nat) (ps:List (List Int)) (l:List Int) (i:Nat) (x:List Int) (hx:ps[i]? = some x) (hl:l.length+x.length≤140737488355328) (hi:ps.length≤9000000000000000000):octets_Join_l1 F ps l i=some (.next (l++x,((i+1:Nat):Int))):=by
  have hlt:i<ps.length:=(List.getElem?_eq_some_iff.1 hx).1
  unfold octets_Join_l1
  have hd:decide ((i:Int)<len ps)=true:=by simp [len]; omega
  rw [if_pos hd,idx_nat,hx]
  simp only [Option.bind_some]
  rw [app_cat hl]
  simp only [Option.bind_some]
  rw [w64_nat i (by omega)]
theorem join_one (F:Nat) (a:List Int) (hF:1<F) (h:a.length≤140737488355328):octets_Join F [a]=some a:=by
  unfold octets_Join
  obtain⟨F',rfl⟩:∃F',F=F'+1+1:=⟨F - 2,by omega⟩
  have h1:octets_Join_l1 (F'+1+1) [a] [] 0=some (.next (a,1)):=by simpa using join_step (F'+1+1) [a] [] 0 a rfl (by simp; omega) (by simp)
  rw [iter_step h1,iter_stop (o:=a) (by unfold octets_Join_l1; rw [if_neg (by simp [len])])]
  rfl
theorem nat_or_add (a b i:Nat) (ha:a<2 ^ i):a ||| (b * 2 ^ i)=a+b * 2 ^ i:=by
  have h:=Nat.shiftLeft_add_eq_or_of_lt ha b
  rw [Nat.shiftLeft_eq] at h
  rw [Nat.or_comm,← h,Nat.add_comm]
theorem pow256 (i:Nat):(256:Int) ^ i=((2 ^ (8 * i):Nat):Int):=by
  rw [Nat.pow_mul,show (2:Nat) ^ 8=256 from by decide]
  exact (congrArg (fun z:Int=>z ^ i) (rfl:(256:Int)=((256:Nat):Int))).trans (Int.natCast_pow 256 i).symm
theorem ior_add (a b:Int) (i:Nat) (hi:i<8) (h0:0≤a) (h1:a<256 ^ i) (h2:Byte b):ior .u64 a (b * 256 ^ i)=a+b * 256 ^ i:=by
  obtain⟨b0,b1⟩:=h2
  obtain⟨a,rfl⟩:=Int.eq_ofNat_of_zero_le h0
  obtain⟨b,rfl⟩:=Int.eq_ofNat_of_zero_le b0
  have hp:=pow256 i
  rw [hp] at h1 ⊢
  have ha:a<2 ^ (8 * i):=by exact_mod_cast h1
  have hb:b<256:=by omega
  have hle:(2:Nat) ^ (8 * i)≤2 ^ 56:=Nat.pow_le_pow_right (by decide) (by omega)
  have hbl:b * 2 ^ (8 * i)<2 ^ 64:=by
    have:b * 2 ^ (8 * i)≤255 * 2 ^ 56:=Nat.mul_le_mul (by omega) hle
    omega
  have hs:a+b * 2 ^ (8 * i)<2 ^ 64:=by
    have:(b+1) * 2 ^ (8 * i)≤256 * 2 ^ 56:=Nat.mul_le_mul (by omega) hle
    rw [Nat.add_mul] at this
    omega
  unfold ior
  have e:((b:Int) * ((2 ^ (8 * i):Nat):Int))=((b * 2 ^ (8 * i):Nat):Int):=by rw [Int.natCast_mul]
  have e2:(BitVec.ofInt IntKind.u64.bits (a:Int) ||| BitVec.ofInt IntKind.u64.bits ((b:Int) * ((2 ^ (8 * i):Nat):Int))).toNat=a+b * 2 ^ (8 * i):=by
    rw [e,BitVec.toNat_or]
    show (BitVec.ofInt 64 (a:Int)).toNat ||| (BitVec.ofInt 64 ((b * 2 ^ (8 * i):Nat):Int)).toNat=_
    rw [BitVec.toNat_ofInt,BitVec.toNat_ofInt]
    rw [show (((a:Nat):Int) % ((2 ^ 64:Nat):Int)).toNat=a from by rw [← Int.natCast_emod,Int.toNat_natCast,Nat.mod_eq_of_lt (by omega)]]
    rw [show (((b * 2 ^ (8 * i):Nat):Int) % ((2 ^ 64:Nat):Int)).toNat=b * 2 ^ (8 * i) from by rw [← Int.natCast_emod,Int.toNat_natCast,Nat.mod_eq_of_lt hbl]]
    exact nat_or_add a b (8 * i) ha
  rw [e2,wrap_u64]
  unfold wu64
  rw [Int.natCast_add,Int.natCast_mul]
  rw [show ((a:Int)+(b:Int) * ((2 ^ (8 * i):Nat):Int))=((a+b * 2 ^ (8 * i):Nat):Int) from by rw [Int.natCast_add,Int.natCast_mul]]
  omega
theorem pow2_nat (i:Nat):(2:Int) ^ (8 * i)=((2 ^ (8 * i):Nat):Int):=(congrArg (fun z:Int=>z ^ (8 * i)) (rfl:(2:Int)=((2:Nat):Int))).trans (Int.natCast_pow 2 (8 * i)).symm
theorem shl_le (x i:Nat) (h1:(x:Int)<256) (hi:i<8):x * 2 ^ (8 * i)≤255 * 2 ^ 56:=by
  have hle:(2:Nat) ^ (8 * i)≤2 ^ 56:=Nat.pow_le_pow_right (by decide) (by omega)
  exact Nat.mul_le_mul (by omega) hle
theorem wu64_le (q:Nat) (hb:q≤255 * 2 ^ 56):wu64 (q:Int)=q:=by
  rw [wu64_id (by omega) (by omega)]
theorem shl_core (x i:Nat) (hi:i<8):ishl .u64 (x:Int) (8 * i)=some (IntKind.u64.wrap ((x:Int) * 2 ^ (8 * i))):=by
  unfold ishl
  rw [if_neg (by omega)]
  have e1:min (8 * (i:Int)).toNat IntKind.u64.bits=8 * i:=by
    show min (8 * (i:Int)).toNat 64=8 * i
    omega
  rw [e1]
theorem shl_bytes {x:Int} (hx:Byte x) (i:Nat) (hi:i<8):ishl .u64 (wu64 x) (w64 (8 * i))=some (x * 256 ^ i):=by
  obtain⟨h0,h1⟩:=hx
  obtain⟨x,rfl⟩:=Int.eq_ofNat_of_zero_le h0
  have e1:w64 (8 * (i:Int))=8 * i:=w64_id (by omega) (by omega)
  have e2:wu64 (x:Int)=x:=wu64_id (by omega) (by omega)
  have e3:=wu64_le _ (shl_le x i h1 hi)
  rw [Int.natCast_mul,← pow2_nat] at e3
  have e4:(256:Int) ^ i=2 ^ (8 * i):=(pow256 i).trans (pow2_nat i).symm
  rw [e1,e2,shl_core x i hi,wrap_u64,e3,e4]
end V
end Go.Proofs.YtoahakdkgefgiaaGreat

namespace Go.Proofs.YtoahakdkgefgiaaGreat
namespace V
theorem iter_find {S O α:Type} {body:S→Option (Out S O)} (st:Nat→S) {l:List α} {p:α→Bool} {g:Nat→O} {e:O} (h:∀(i:Nat) x,l[i]? = some x→body (st i)=some (if p x=true then .done (g i) else .next (st (i+1)))) (he:body (st l.length)=some (.done e)) :
    ∀(F i:Nat),i≤l.length→l.length - i<F→iter body F (st i)=some (match (l.drop i).findIdx? p with | some k=>g (i+k) | none=>e)
  | 0,i,_,hF=>by omega
  | F+1,i,hi,hF=>by
    by_cases hin:i<l.length
    · have hx:l[i]? = some l[i]:=List.getElem?_eq_getElem hin
      have hdr:l.drop i=l[i]::l.drop (i+1):=List.drop_eq_getElem_cons hin
      have hb:=h i _ hx
      by_cases hp:p l[i]=true
      · rw [if_pos hp] at hb
        rw [iter_stop hb,hdr,List.findIdx?_cons,hp]
        rfl
      · rw [if_neg hp] at hb
        rw [iter_step hb,iter_find st h he F (i+1) hin (by omega),hdr,List.findIdx?_cons,if_neg hp]
        cases (l.drop (i+1)).findIdx? p with
        | none=>rfl
        | some k=>simp only [Option.map_some]; rw [show i+1+k=i+(k+1) from by omega]
    · have:i=l.length:=by omega
      subst this
      rw [iter_stop he,List.drop_length]
      rfl
theorem df {p:Prop} [Decidable p] (h:¬ p):¬ decide p=true:=by simpa using h
def sht (n:Int):T_UUID:=T_UUID.mk (n * 4294967296+4096) 9223372588214596859
structure UOk (u:T_UUID):Prop where
  h0:0≤u.High
  h1:u.High<18446744073709551616
  l0:0≤u.Low
  l1:u.Low<18446744073709551616
theorem sht_ok {n:Int} (h0:0≤n) (h1:n<65536):UOk (sht n):=⟨by simp only [sht]; omega,by simp only [sht]; omega,by simp only [sht]; omega,by simp only [sht]; omega⟩
theorem rshort (F:Nat) (n:Int) (h0:0≤n) (h1:n<65536):wirelessref41_Short F n=some (sht n):=by
  unfold wirelessref41_Short sht
  rw [wu64_id (x:=n) (by omega) (by omega),wu64_id (x:=n * 4294967296) (by omega) (by omega),wu64_id (by omega) (by omega)]
theorem ofInt_nat (w a:Nat) (h:a<2 ^ w):(BitVec.ofInt w (a:Int)).toNat=a:=by
  rw [BitVec.toNat_ofInt,← Int.natCast_emod,Int.toNat_natCast,Nat.mod_eq_of_lt h]
theorem ior64 (a b:Nat) (ha:a<2 ^ 64) (hb:b<2 ^ 64):ior .u64 (a:Int) (b:Int)=((a ||| b:Nat):Int):=by
  have h:=Nat.or_lt_two_pow ha hb
  unfold ior
  have e:(BitVec.ofInt IntKind.u64.bits (a:Int) ||| BitVec.ofInt IntKind.u64.bits (b:Int)).toNat=a ||| b:=by
    rw [BitVec.toNat_or]
    show (BitVec.ofInt 64 (a:Int)).toNat ||| (BitVec.ofInt 64 (b:Int)).toNat=_
    rw [ofInt_nat 64 a ha,ofInt_nat 64 b hb]
  rw [e,wrap_u64,wu64_id (by omega) (by omega)]
theorem ior16 (a b:Nat) (ha:a<2 ^ 16) (hb:b<2 ^ 16):ior .u16 (a:Int) (b:Int)=((a ||| b:Nat):Int):=by
  have h:=Nat.or_lt_two_pow ha hb
  unfold ior
  have e:(BitVec.ofInt IntKind.u16.bits (a:Int) ||| BitVec.ofInt IntKind.u16.bits (b:Int)).toNat=a ||| b:=by
    rw [BitVec.toNat_or]
    show (BitVec.ofInt 16 (a:Int)).toNat ||| (BitVec.ofInt 16 (b:Int)).toNat=_
    rw [ofInt_nat 16 a ha,ofInt_nat 16 b hb]
  rw [e,wrap_u16,wu16_id (by omega) (by omega)]
theorem ushort (F:Nat) (n:Int) (h0:0≤n) (h1:n<65536):uuid_Short F n=some (sht n):=by
  unfold uuid_Short sht
  obtain⟨n,rfl⟩:=Int.eq_ofNat_of_zero_le h0
  have e:shlp .u64 (wu64 (n:Int)) 32=((n * 2 ^ 32:Nat):Int):=by
    unfold shlp
    rw [wu64_id (by omega) (by omega),wrap_u64,show (n:Int) * 2 ^ 32=((n * 2 ^ 32:Nat):Int) from by rw [Int.natCast_mul]; rfl,wu64_id (by omega) (by omega)]
  rw [e,show (4096:Int)=((4096:Nat):Int) from rfl,ior64 _ _ (by omega) (by omega),Nat.or_comm,nat_or_add _ _ 32 (by decide)]
  congr 2
  omega
theorem word16 {x y:Int} (hx:Byte x) (hy:Byte y):ior .u16 (wu16 x) (shlp .u16 (wu16 y) 8)=x+256 * y:=by
  obtain⟨x0,x1⟩:=hx
  obtain⟨y0,y1⟩:=hy
  obtain⟨x,rfl⟩:=Int.eq_ofNat_of_zero_le x0
  obtain⟨y,rfl⟩:=Int.eq_ofNat_of_zero_le y0
  have e:shlp .u16 (wu16 (y:Int)) 8=((y * 2 ^ 8:Nat):Int):=by
    unfold shlp
    rw [wu16_id (by omega) (by omega),wrap_u16,show (y:Int) * 2 ^ 8=((y * 2 ^ 8:Nat):Int) from by rw [Int.natCast_mul]; rfl,wu16_id (by omega) (by omega)]
  rw [e,wu16_id (by omega) (by omega),ior16 _ _ (by omega) (by omega),nat_or_add _ _ 8 (by omega)]
  omega
theorem shrp_eq (x:Int) (n:Nat):shrp x n=x / 2 ^ n:=by
  unfold shrp
  rw [Int.fdiv_eq_ediv_of_nonneg _ (Int.le_of_lt (Int.pow_pos (by decide)))]
theorem ubytes (F:Nat) (u:T_UUID):uuid_bytes F u=some (u.Low % 256,u.Low / 256 % 256,u.Low / 65536 % 256,u.Low / 16777216 % 256,u.Low / 4294967296 % 256,u.Low / 1099511627776 % 256,u.Low / 281474976710656 % 256,u.Low / 72057594037927936 % 256,u.High % 256,u.High / 256 % 256,u.High / 65536 % 256,u.High / 16777216 % 256,u.High / 4294967296 % 256,u.High / 1099511627776 % 256,u.High / 281474976710656 % 256,u.High / 72057594037927936 % 256):=by
  simp only [uuid_bytes,uuid_bytes_u4_1,uuid_bytes_u4_2,uuid_bytes_u4_3,uuid_bytes_u4_4,uuid_bytes_u4_5,uuid_bytes_u4_6,uuid_bytes_u4_7,uuid_bytes_u4_8,uuid_bytes_j1,shrp_eq,wu8,Int.reducePow,Int.ediv_one]
def numb (u:T_UUID):Int×Bool:=if u.Low=9223372588214596859∧u.High % 4294967296=4096∧u.High / 4294967296<65536 then (u.High / 4294967296,true) else (0,false)
theorem unumber (F:Nat) {u:T_UUID} (hu:UOk u):uuid_Number F u=some (numb u):=by
  obtain⟨h0,h1,l0,l1⟩:=hu
  unfold uuid_Number
  rw [ubytes,Option.bind_some,show uuid_bytes F (T_UUID.mk 4096 9223372588214596859)=some (251,52,155,95,128,0,0,128,0,16,0,0,0,0,0,0) from by rw [ubytes]; rfl,Option.bind_some]
  unfold uuid_Number_j1 numb
  by_cases h:u.Low=9223372588214596859∧u.High % 4294967296=4096∧u.High / 4294967296<65536
  · rw [if_pos h]
    obtain⟨h2,h3,h4⟩:=h
    rw [if_neg (by
      rw [Bool.not_eq_true']
      simp only [Bool.not_eq_false,Bool.and_eq_true,beq_iff_eq]
      refine ⟨by omega,by omega,by omega,by omega,by omega,by omega,by omega,by omega,by omega,by omega,by omega,by omega,trivial,trivial,by omega,by omega⟩)]
    simp only
    rw [word16 ⟨by omega,by omega⟩ ⟨by omega,by omega⟩]
    congr 2
    omega
  · rw [if_neg h,if_pos (by
      rw [Bool.not_eq_true',Bool.eq_false_iff]
      intro hc
      simp only [Bool.and_eq_true,beq_iff_eq] at hc
      exact h (by omega))]
theorem rnumber (F:Nat) {u:T_UUID} (hu:UOk u):wirelessref41_Number F u=some (numb u):=by
  obtain⟨h0,h1,l0,l1⟩:=hu
  unfold wirelessref41_Number numb
  have e:quop .u64 u.High 4294967296=u.High / 4294967296:=by
    unfold quop
    rw [Int.tdiv_eq_ediv_of_nonneg h0,wrap_u64,wu64_id (by omega) (by omega)]
  rw [e]
  by_cases hb:u.High / 4294967296 > 65535
  · rw [if_pos (by simpa using hb),if_neg (by omega)]
    rfl
  · rw [if_neg (by simpa using hb),wu16_id (by omega) (by omega),rshort _ _ (by omega) (by omega),Option.bind_some]
    unfold wirelessref41_Number_j1 sht
    simp only
    by_cases h:u.Low=9223372588214596859∧u.High % 4294967296=4096∧u.High / 4294967296<65536
    · rw [if_pos h,if_neg (by
        rw [Bool.not_eq_true']
        simp only [Bool.not_eq_false,Bool.and_eq_true,beq_iff_eq]
        omega),e,wu16_id (by omega) (by omega)]
    · rw [if_neg h,if_pos (by
        rw [Bool.not_eq_true',Bool.eq_false_iff]
        intro hc
        simp only [Bool.and_eq_true,beq_iff_eq] at hc
        exact h (by omega))]
def isN (u:T_UUID) (n:Int):Bool:=u.High == n * 4294967296+4096&&u.Low == 9223372588214596859
theorem isN_sh {m n:Int}:isN (sht m) n=(m == n):=by
  unfold isN sht
  simp only
  by_cases h:m=n
  · subst h; simp
  · rw [beq_false_of_ne h,beq_false_of_ne (by omega)]; rfl
theorem isN_eq {u:T_UUID} {n:Int} (h:isN u n=true):u=sht n:=by
  unfold isN at h
  simp only [Bool.and_eq_true,beq_iff_eq] at h
  cases u
  simp only [sht] at h ⊢
  rw [h.1,h.2]
theorem isN_num {u:T_UUID} {n:Int} (h0:0≤n) (h1:n<65536):((numb u).2&&(n == (numb u).1))=isN u n:=by
  unfold numb isN
  by_cases h:u.Low=9223372588214596859∧u.High % 4294967296=4096∧u.High / 4294967296<65536
  · rw [if_pos h]
    obtain⟨h2,h3,h4⟩:=h
    by_cases hn:n=u.High / 4294967296
    · simp only [Bool.true_and]
      rw [show (n == u.High / 4294967296)=true from by simpa using hn,show (u.High == n * 4294967296+4096)=true from by simp; omega,show (u.Low == 9223372588214596859)=true from by simpa using h2]
      rfl
    · simp only [Bool.true_and]
      rw [beq_false_of_ne hn,beq_false_of_ne (by omega)]
      rfl
  · rw [if_neg h]
    simp only [Bool.false_and]
    symm
    rw [Bool.eq_false_iff]
    intro hc
    simp only [Bool.and_eq_true,beq_iff_eq] at hc
    exact h (by omega)
theorem index_ok (F:Nat) (l:List Int) (v:Int) (hF:l.length<F) (hl:l.length≤1000):slices_Index_uint16_uint16 F l v=some (match l.findIdx? (fun x=>v == x) with | some k=>(k:Int) | none=>-1):=by
  unfold slices_Index_uint16_uint16
  have:=iter_find (body:=fun s=>slices_Index_uint16_uint16_l1 F l v s) (fun i=>(i:Int)) (l:=l) (p:=fun x=>v == x) (g:=fun k=>Sum.inr (k:Int)) (e:=Sum.inl ()) (by
    intro i x hx
    have hi:=(List.getElem?_eq_some_iff.1 hx).1
    show slices_Index_uint16_uint16_l1 F l v i=_
    unfold slices_Index_uint16_uint16_l1
    rw [if_pos (by simp [len]; omega),idx_nat,hx,Option.bind_some,w64_nat i (by omega)]
    split <;> rfl) (by
    show slices_Index_uint16_uint16_l1 F l v _=_
    unfold slices_Index_uint16_uint16_l1
    rw [if_neg (by simp [len])]) F 0 (by omega) (by omega)
  rw [show ((0:Nat):Int)=0 from rfl] at this
  rw [this,Option.bind_some,List.drop_zero]
  cases l.findIdx? (fun x=>v == x) with
  | none=>rfl
  | some k=>simp
theorem contains_ok (F:Nat) (l:List Int) (v:Int) (hF:l.length<F) (hl:l.length≤1000):slices_Contains_uint16_uint16 F l v=some (l.any fun x=>v == x):=by
  unfold slices_Contains_uint16_uint16
  rw [index_ok F l v hF hl,Option.bind_some]
  congr 1
  cases h:l.findIdx? (fun x=>v == x) with
  | none=>
    rw [List.findIdx?_eq_none_iff] at h
    symm
    simp only [decide_eq_false (show ¬ ((-1:Int)≥0) by omega)]
    rw [List.any_eq_false]
    intro x hx
    rw [h x hx]
    decide
  | some k=>
    have:=List.findIdx?_eq_some_iff_getElem.1 h
    obtain⟨hk,hp,_⟩:=this
    symm
    rw [decide_eq_true (show (k:Int)≥0 by omega),List.any_eq_true]
    exact⟨_,List.getElem_mem hk,hp⟩
theorem is_ok (F:Nat) {u:T_UUID} (hu:UOk u) (l:List Int) (hF:l.length<F) (hl:l.length≤1000) (hb:∀n∈l,0≤n∧n<65536):database_is F u l=some (l.any (isN u)):=by
  unfold database_is
  rw [unumber F hu,Option.bind_some]
  have e:((numb u).2&&l.any fun x=>(numb u).1 == x)=l.any (isN u):=by
    induction l with
    | nil=>simp
    | cons n r ih=>
      have h1:=isN_num (u:=u) (hb n (by simp)).1 (hb n (by simp)).2
      rw [List.any_cons,List.any_cons,← h1,← ih (by simp at hF; omega) (by simp at hl; omega) fun m hm=>hb m (by simp [hm])]
      rw [Bool.and_or_distrib_left,show ((numb u).1 == n)=(n == (numb u).1) from by rw [Bool.eq_iff_iff,beq_iff_eq,beq_iff_eq]; exact eq_comm]
  by_cases h:(numb u).2=true
  · rw [if_pos h,contains_ok F l _ hF hl,Option.bind_some,Option.bind_some,← e,h,Bool.true_and]
  · rw [if_neg h,Option.bind_some,← e,(Bool.not_eq_true _).mp h,Bool.false_and]
def isv (u:T_UUID):Bool:=isN u 10240||isN u 10241
def decl (u:T_UUID):Bool:=isv u||(isN u 10242||isN u 10243)
def resv (u:T_UUID):Bool:=decl u||isN u 10498
theorem is1 (F:Nat) {u:T_UUID} (hu:UOk u) (n:Int) (hF:10<F) (h0:0≤n) (h1:n<65536):database_is F u [n]=some (isN u n):=by
  rw [is_ok F hu [n] (by simp; omega) (by simp) (by simp; omega)]
  simp
theorem service_ok (F:Nat) {u:T_UUID} (hu:UOk u) (hF:10<F):database_service F u=some (isv u):=by
  unfold database_service isv
  rw [is_ok F hu [10240,10241] (by simp; omega) (by simp) (by intro n hn; simp at hn; omega)]
  simp
theorem declaration_ok (F:Nat) {u:T_UUID} (hu:UOk u) (hF:10<F):database_declaration F u=some (decl u):=by
  unfold database_declaration decl
  rw [service_ok F hu hF,Option.bind_some,is_ok F hu [10242,10243] (by simp; omega) (by simp) (by intro n hn; simp at hn; omega)]
  cases isv u <;> simp
theorem reserved_ok (F:Nat) {u:T_UUID} (hu:UOk u) (hF:10<F):database_reserved F u=some (resv u):=by
  unfold database_reserved resv
  rw [declaration_ok F hu hF,Option.bind_some,is1 F hu 10498 hF (by decide) (by decide)]
  cases decl u <;> simp
theorem rIs (F:Nat) (u:T_UUID) (n:Int) (h0:0≤n) (h1:n<65536):wirelessref43_Is F u n=some (isN u n):=by
  unfold wirelessref43_Is
  rw [rshort F n h0 h1]
  rfl
theorem rIsService (F:Nat) (a:T_Attribute):wirelessref43_IsService F a=some (isv a.f_Type):=by
  unfold wirelessref43_IsService isv
  rw [rIs F _ _ (by decide) (by decide),rIs F _ _ (by decide) (by decide),Option.bind_some]
  cases isN a.f_Type 10240 <;> simp
theorem rIsChar (F:Nat) (a:T_Attribute):wirelessref43_IsChar F a=some (isN a.f_Type 10243):=by
  unfold wirelessref43_IsChar
  rw [rIs F _ _ (by decide) (by decide),Option.bind_some]
theorem rdeclares (F:Nat) (u:T_UUID):wirelessref43_declares F u=some (decl u):=by
  unfold wirelessref43_declares decl isv
  simp only [rIs F u 10240 (by decide) (by decide),rIs F u 10241 (by decide) (by decide),rIs F u 10242 (by decide) (by decide),rIs F u 10243 (by decide) (by decide),Option.bind_some]
  cases isN u 10240 <;> cases isN u 10241 <;> cases isN u 10242 <;> simp
theorem rkept (F:Nat) (u:T_UUID):wirelessref43_kept F u=some (resv u):=by
  unfold wirelessref43_kept resv
  rw [rdeclares,Option.bind_some,rIs F _ _ (by decide) (by decide)]
  cases decl u <;> simp
def UZ:T_UUID:=T_UUID.mk 0 0
def decU (b:List Int):T_UUID×Int:=
  if b.length=2 then (sht (num b),0)
  else if b.length<16 then (UZ,3)
  else if b.length > 16 then (UZ,2)
  else if (numb (T_UUID.mk (num (b.drop 8)) (num (b.take 8)))).2=true then (UZ,2)
  else (T_UUID.mk (num (b.drop 8)) (num (b.take 8)),0)
theorem num2 (x y:Int):num [x,y]=x+256 * y:=by simp [num]
theorem uok16 {b:List Int} (hb:∀x∈b,Byte x) (hl:b.length=16):UOk (T_UUID.mk (num (b.drop 8)) (num (b.take 8))):=by
  have h1:∀x∈b.drop 8,Byte x:=fun x hx=>hb x (List.mem_of_mem_drop hx)
  have h2:∀x∈b.take 8,Byte x:=fun x hx=>hb x (List.mem_of_mem_take hx)
  have h3:=num_lt h1
  have h4:=num_lt h2
  rw [show (b.drop 8).length=8 from by simp [hl]] at h3
  rw [show (b.take 8).length=8 from by simp [hl]] at h4
  exact⟨num_nonneg h1,h3,num_nonneg h2,h4⟩
theorem decU_ok {b:List Int} (hb:∀x∈b,Byte x):UOk (decU b).1:=by
  have hz:UOk UZ:=⟨by decide,by decide,by decide,by decide⟩
  unfold decU
  split
  · rename_i h
    match b,h,hb with
    | [x,y],_,hb=>
      have hx:=hb x (by simp)
      have hy:=hb y (by simp)
      obtain⟨x0,x1⟩:=hx
      obtain⟨y0,y1⟩:=hy
      rw [num2]
      exact sht_ok (by omega) (by omega)
  · split
    · exact hz
    · split
      · exact hz
      · split
        · exact hz
        · exact uok16 hb (by omega)
theorem rdecode (F:Nat) {b:List Int} (hb:∀x∈b,Byte x) (hF:20<F):wirelessref41_Decode F b=some (decU b):=by
  unfold wirelessref41_Decode decU
  by_cases h2:b.length=2
  · rw [if_pos (show (len b == 2)=true from by simp [len]; omega),if_pos h2]
    match b,h2,hb with
    | [x,y],_,hb=>
      have h:=rnum_ok F [x,y] [x,y] 0 (by simp; omega) hb (by simp) (by omega) (by simp)
      have hx:=hb x (by simp)
      have hy:=hb y (by simp)
      obtain⟨x0,x1⟩:=hx
      obtain⟨y0,y1⟩:=hy
      have h':wirelessref23_Num F [x,y] 0 2=some (num [x,y]):=h
      rw [h',Option.bind_some]
      rw [num2,wu16_id (by omega) (by omega),rshort F _ (by omega) (by omega),Option.bind_some]
  · rw [if_neg (show ¬ (len b == 2)=true from by simp [len]; omega),if_neg h2]
    by_cases h16:b.length<16
    · rw [if_pos (decide_eq_true (show len b<16 by rw [len_nat]; omega)),if_pos h16]; rfl
    · rw [if_neg (df (show ¬ len b<16 by rw [len_nat]; omega)),if_neg h16]
      by_cases h17:b.length > 16
      · rw [if_pos (decide_eq_true (show len b > 16 by rw [len_nat]; omega)),if_pos h17]; rfl
      · rw [if_neg (df (show ¬ len b > 16 by rw [len_nat]; omega)),if_neg h17]
        have hl:b.length=16:=by omega
        have h1:∀x∈b.drop 8,Byte x:=fun x hx=>hb x (List.mem_of_mem_drop hx)
        have h2:∀x∈b.take 8,Byte x:=fun x hx=>hb x (List.mem_of_mem_take hx)
        have e1:(b.drop 8).length=8:=by simp [hl]
        have e2:(b.take 8).length=8:=by simp [hl]
        have a:=rnum_ok F b (b.take 8) 0 (by omega) h2 (by omega) (by omega) (by
          intro i hi
          rw [List.getElem?_take,if_pos (by omega),Nat.zero_add])
        have c:=rnum_ok F b (b.drop 8) 8 (by omega) h1 (by omega) (by omega) (by
          intro i hi
          rw [List.getElem?_drop])
        rw [e2] at a
        rw [e1] at c
        have a':wirelessref23_Num F b 0 8=some (num (b.take 8)):=a
        have c':wirelessref23_Num F b 8 8=some (num (b.drop 8)):=c
        rw [a',Option.bind_some,c',Option.bind_some,rnumber F (uok16 hb hl),Option.bind_some]
        split <;> rfl
theorem ior_num {b:List Int} {i:Nat} (hb:∀x∈b,Byte x) (hi:i<8) (x:Int) (hx:b[i]? = some x):ior .u64 (num (b.take i)) (x * 256 ^ i)=num (b.take (i+1)):=by
  have hl:(b.take i).length=i:=by
    have:=(List.getElem?_eq_some_iff.1 hx).1
    simp; omega
  have ht:∀x∈b.take i,Byte x:=fun x hx=>hb x (List.mem_of_mem_take hx)
  have h1:=num_lt ht
  rw [hl] at h1
  rw [ior_add _ _ i hi (num_nonneg ht) h1 (hb x (List.mem_of_getElem? hx)),List.take_add_one,hx,num_append,hl]
  simp only [Option.toList_some,num]
  rw [Int.mul_zero,Int.add_zero,Int.mul_comm]
theorem udecode (F:Nat) {b:List Int} (hb:∀x∈b,Byte x) (hF:20<F):uuid_Decode F b=some (decU b):=by
  unfold uuid_Decode decU
  by_cases h2:b.length=2
  · rw [if_pos (show (len b == 2)=true from by simp [len]; omega),if_pos h2]
    match b,h2,hb with
    | [x,y],_,hb=>
      have hx:=hb x (by simp)
      have hy:=hb y (by simp)
      rw [show idx [x,y] 0=some x from rfl,show idx [x,y] 1=some y from rfl,Option.bind_some,Option.bind_some,word16 hx hy,num2]
      obtain⟨x0,x1⟩:=hx
      obtain⟨y0,y1⟩:=hy
      rw [ushort F _ (by omega) (by omega),Option.bind_some]
      rfl
  · rw [if_neg (show ¬ (len b == 2)=true from by simp [len]; omega),if_neg h2]
    by_cases h16:b.length<16
    · rw [if_pos (decide_eq_true (show len b<16 by rw [len_nat]; omega)),if_pos h16]; rfl
    · rw [if_neg (df (show ¬ len b<16 by rw [len_nat]; omega)),if_neg h16]
      by_cases h17:b.length > 16
      · rw [if_pos (decide_eq_true (show len b > 16 by rw [len_nat]; omega)),if_pos h17]; rfl
      · rw [if_neg (df (show ¬ len b > 16 by rw [len_nat]; omega)),if_neg h17]
        have hl:b.length=16:=by omega
        have h1:∀x∈b.drop 8,Byte x:=fun x hx=>hb x (List.mem_of_mem_drop hx)
        have:=iter_count (body:=fun s:T_UUID×Int=>uuid_Decode_l1 F b s.1 s.2) (fun i=>(T_UUID.mk (num ((b.drop 8).take i)) (num (b.take i)),(i:Int))) 8 (T_UUID.mk (num (b.drop 8)) (num (b.take 8))) (by
          intro i hi
          have hx:b[i]? = some b[i]:=List.getElem?_eq_getElem (by omega)
          have hy:b[8+i]? = some b[8+i]:=List.getElem?_eq_getElem (by omega)
          have hy':(b.drop 8)[i]? = some b[8+i]:=by rw [List.getElem?_drop]; exact hy
          show uuid_Decode_l1 F b _ (i:Int)=_
          unfold uuid_Decode_l1
          rw [if_pos (by simp; omega),idx_nat,hx,Option.bind_some,shl_bytes (hb _ (List.mem_of_getElem? hx)) i hi,Option.bind_some]
          unfold uuid_Decode_j3
          rw [w64_id (x:=8+(i:Int)) (by omega) (by omega),show (8:Int)+i=((8+i:Nat):Int) from by omega,idx_nat,hy,Option.bind_some,shl_bytes (hb _ (List.mem_of_getElem? hy)) i hi,Option.bind_some,w64_nat i (by omega)]
          simp only
          rw [ior_num hb hi _ hx,ior_num h1 hi _ hy']) (by
          show uuid_Decode_l1 F b _ ((8:Nat):Int)=_
          unfold uuid_Decode_l1
          rw [if_neg (by simp),show (b.drop 8).take 8=b.drop 8 from List.take_of_length_le (by simp [hl])]) F 0 (by omega) (by omega)
        rw [List.take_zero,List.take_zero] at this
        have h0:((T_UUID.mk (num []) (num []),((0:Nat):Int)):T_UUID×Int)=(T_UUID.mk 0 0,0):=rfl
        rw [h0] at this
        rw [this,Option.bind_some]
        unfold uuid_Decode_j2
        rw [unumber F (uok16 hb hl),Option.bind_some]
        split <;> rfl
end V
end Go.Proofs.YtoahakdkgefgiaaGreat

namespace Go.Proofs.YtoahakdkgefgiaaGreat
namespace V
theorem dt {p:Prop} [Decidable p] (h:p):decide p=true:=decide_eq_true h
theorem iter_sim {S1 S2 O1 O2:Type} {b1:S1→Option (Out S1 O1)} {b2:S2→Option (Out S2 O2)} (R:S1→S2→Prop) (Q:O1→O2→Prop) (m:S1→Nat)
    (h:∀s1 s2,R s1 s2→(∃t1 t2,b1 s1=some (.next t1)∧b2 s2=some (.next t2)∧R t1 t2∧m t1<m s1)∨∃o1 o2,b1 s1=some (.done o1)∧b2 s2=some (.done o2)∧Q o1 o2) :
    ∀(F:Nat) (s1:S1) (s2:S2),R s1 s2→m s1<F→∃o1 o2,iter b1 F s1=some o1∧iter b2 F s2=some o2∧Q o1 o2
  | 0,_,_,_,hF=>by omega
  | F+1,s1,s2,hR,hF=>by
    rcases h s1 s2 hR with ⟨t1,t2,h1,h2,hR',hm⟩ | ⟨o1,o2,h1,h2,hq⟩
    · obtain⟨o1,o2,h3,h4,hq⟩:=iter_sim R Q m h F t1 t2 hR' (by omega)
      exact⟨o1,o2,by rw [iter_step h1,h3],by rw [iter_step h2,h4],hq⟩
    · exact⟨o1,o2,iter_stop h1,iter_stop h2,hq⟩
structure AOk (a:T_Attribute):Prop where
  h0:0≤a.Handle
  h1:a.Handle<65536
  u:UOk a.f_Type
  b:∀x∈a.Value,Byte x
  l:a.Value.length≤140737488355328
def prt (b:List Int):Int×Int×T_UUID×Bool:=
  if b.length<3 then (0,0,UZ,false)
  else (num (b.take 1),num ((b.drop 1).take 2),(decU (b.drop 3)).1,(decU (b.drop 3)).2 == 0)
theorem sub_drop {α:Type} (l:List α) (k:Nat) (h:k≤l.length):sub l (k:Int) (len l)=some (l.drop k):=by
  rw [len_nat,sub_nat l k l.length h (by omega),List.take_length]
theorem rparts (F:Nat) {b:List Int} (hb:∀x∈b,Byte x) (hF:20<F):wirelessref43_CharParts F b=some (prt b):=by
  unfold wirelessref43_CharParts prt
  by_cases h3:b.length<3
  · rw [if_pos (dt (show len b<3 by rw [len_nat]; omega)),if_pos h3]; rfl
  · rw [if_neg (df (show ¬ len b<3 by rw [len_nat]; omega)),if_neg h3]
    have hs:=sub_drop b 3 (by omega)
    rw [show ((3:Nat):Int)=3 from rfl] at hs
    rw [hs,Option.bind_some,rdecode F (fun x hx=>hb x (List.mem_of_mem_drop hx)) hF,Option.bind_some]
    match b,h3,hb with
    | x::y::z::r,_,hb=>
      obtain⟨x0,x1⟩:=hb x (by simp)
      obtain⟨y0,y1⟩:=hb y (by simp)
      obtain⟨z0,z1⟩:=hb z (by simp)
      have h:=rnum_ok F (x::y::z::r) [y,z] 1 (by simp; omega) (fun w hw=>hb w (by simp at hw ⊢; rcases hw with rfl | rfl <;> simp)) (by simp) (by omega) (by
        intro i hi
        match i,hi with
        | 0,_=>rfl
        | 1,_=>rfl)
      have h':wirelessref23_Num F (x::y::z::r) 1 2=some (num [y,z]):=h
      rw [show idx (x::y::z::r) 0=some x from rfl,Option.bind_some,h',Option.bind_some,num2,wu16_id (by omega) (by omega),w64_id (by omega) (by omega)]
      unfold wirelessref43_CharParts_j1
      simp [num]
theorem udescribed (F:Nat) {b:List Int} (hb:∀x∈b,Byte x) (hF:20<F):database_described F b=some (if (prt b).2.2.2=true then prt b else (0,0,UZ,false)):=by
  unfold database_described prt
  by_cases h3:b.length<3
  · rw [if_pos (dt (show len b<3 by rw [len_nat]; omega)),if_pos h3]; rfl
  · rw [if_neg (df (show ¬ len b<3 by rw [len_nat]; omega)),if_neg h3]
    have hs:=sub_drop b 3 (by omega)
    rw [show ((3:Nat):Int)=3 from rfl] at hs
    rw [hs,Option.bind_some,udecode F (fun x hx=>hb x (List.mem_of_mem_drop hx)) hF,Option.bind_some]
    by_cases he:(decU (b.drop 3)).2=0
    · rw [if_neg (by simp [he]),if_pos (show ((decU (b.drop 3)).2 == 0)=true by simpa using he)]
      match b,h3,hb with
      | x::y::z::r,_,hb=>
        have hx:=hb x (by simp)
        have hy:=hb y (by simp)
        have hz:=hb z (by simp)
        obtain⟨x0,x1⟩:=hx
        rw [show idx (x::y::z::r) 0=some x from rfl,show idx (x::y::z::r) 1=some y from rfl,show idx (x::y::z::r) 2=some z from rfl,Option.bind_some,Option.bind_some,Option.bind_some,word16 hy hz,w64_id (by omega) (by omega)]
        unfold database_described_j1
        simp only [List.drop_succ_cons,List.drop_zero] at he ⊢
        rw [he]
        simp [num]
    · rw [if_pos (by simp [he]),if_neg (show ¬ ((decU (b.drop 3)).2 == 0)=true by simpa using he)]; rfl
def cw (db:List T_Attribute) (i:Nat) (a:T_Attribute):Bool:=match db[i+1]? with
  | none=>true
  | some b=>(!(prt a.Value).2.2.2||resv (prt a.Value).2.2.1)||(b.Handle != (prt a.Value).2.1 || !(b.f_Type.High == (prt a.Value).2.2.1.High&&b.f_Type.Low == (prt a.Value).2.2.1.Low))
def wrg (db:List T_Attribute) (i:Nat) (p:T_database_place) (a:T_Attribute):Bool:=
  if (((i:Int) == 0 && !isv a.f_Type)||(decl a.f_Type&&(iand .i64 a.Perms 2 != 0)))=true then true
  else if isv a.f_Type=true then (decU a.Value).2 != 0
  else if isN a.f_Type 10243=true then cw db i a
  else if isN a.f_Type 10498=true then ((len a.Value != 2 || !p.char)||p.config)
  else false
theorem prt_ok {b:List Int} (hb:∀x∈b,Byte x):UOk (prt b).2.2.1:=by
  unfold prt
  split
  · exact⟨by decide,by decide,by decide,by decide⟩
  · exact decU_ok fun x hx=>hb x (List.mem_of_mem_drop hx)
theorem uwrong (F:Nat) {db:List T_Attribute} {i:Nat} {a:T_Attribute} (p:T_database_place) (hi:db[i]? = some a) (hn:db.length≤9000000000000000) (ha:AOk a) (hF:20<F):database_wrong F db i p=some (wrg db i p a):=by
  have hil:=(List.getElem?_eq_some_iff.1 hi).1
  unfold database_wrong wrg
  rw [idx_nat,hi,Option.bind_some,service_ok F ha.u (by omega),declaration_ok F ha.u (by omega)]
  have hj:∀z:Bool,database_wrong_j1 F db i p a z=some (if z=true then true else if isv a.f_Type=true then (decU a.Value).2 != 0 else if isN a.f_Type 10243=true then cw db i a else if isN a.f_Type 10498=true then ((len a.Value != 2 || !p.char)||p.config) else false):=by
    intro z
    unfold database_wrong_j1
    cases z with
    | true=>rfl
    | false=>
      rw [if_neg (by decide),if_neg (by decide),service_ok F ha.u (by omega),Option.bind_some]
      by_cases hs:isv a.f_Type=true
      · rw [if_pos hs,if_pos hs,udecode F ha.b hF,Option.bind_some]
      · rw [if_neg hs,if_neg hs,is1 F ha.u 10243 (by omega) (by decide) (by decide),Option.bind_some]
        by_cases hc:isN a.f_Type 10243=true
        · rw [if_pos hc,if_pos hc,udescribed F ha.b hF,Option.bind_some]
          unfold cw
          have hw:w64 ((i:Int)+1)=((i+1:Nat):Int):=w64_nat i (by omega)
          by_cases ho:(prt a.Value).2.2.2=true
          · rw [if_pos ho,if_neg (by rw [ho]; decide),reserved_ok F (prt_ok ha.b) (by omega),Option.bind_some,hw,ho]
            by_cases hl:i+1<db.length
            · rw [List.getElem?_eq_getElem hl,idx_nat,List.getElem?_eq_getElem hl]
              simp only [Option.bind_some]
              by_cases hr:resv (prt a.Value).2.2.1=true
              · rw [if_pos (by rw [hr]; rfl),hr]; rfl
              · rw [if_neg (by rw [(Bool.not_eq_true _).mp hr,Bool.false_or]; exact df (by rw [len_nat]; omega)),(Bool.not_eq_true _).mp hr]
                by_cases hh:(db[i+1].Handle != (prt a.Value).2.1)=true
                · rw [if_pos hh,hh]; rfl
                · rw [if_neg hh,(Bool.not_eq_true _).mp hh]; rfl
            · rw [List.getElem?_eq_none (by omega),if_pos (by
                rw [Bool.or_eq_true]
                exact .inr (dt (by rw [len_nat]; omega)))]
              rfl
          · rw [if_neg ho,if_pos (by rfl),if_pos (by rfl),(Bool.not_eq_true _).mp ho]
            cases db[i+1]? <;> rfl
        · rw [if_neg hc,if_neg hc,is1 F ha.u 10498 (by omega) (by decide) (by decide),Option.bind_some]
          by_cases hg:isN a.f_Type 10498=true
          · rw [if_pos hg,if_pos hg]
          · rw [if_neg hg,if_neg hg]
  by_cases h0:((i:Int) == 0)=true
  · rw [if_pos h0,Option.bind_some,Option.bind_some,h0,Bool.true_and]
    by_cases hs:isv a.f_Type=true
    · rw [hs]
      simp only [Bool.not_true,Bool.false_eq_true,if_false,Option.bind_some,Bool.false_or]
      rw [hj,hs]
      simp
    · rw [(Bool.not_eq_true _).mp hs]
      simp only [Bool.not_false,if_true,Bool.true_or]
      rw [hj]
      rfl
  · rw [if_neg h0,Option.bind_some,if_neg (by decide),Option.bind_some,(Bool.not_eq_true _).mp h0,Bool.false_and,Bool.false_or,hj]
def stepP (p:T_database_place) (u:T_UUID):T_database_place:=
  if isv u=true then T_database_place.mk false false
  else if isN u 10243=true then T_database_place.mk true false
  else if isN u 10498=true then { p with config:=true }
  else p
def plc (l:List T_Attribute):T_database_place:=l.foldl (fun p a=>stepP p a.f_Type) (T_database_place.mk false false)
theorem plc_snoc (l:List T_Attribute) (a:T_Attribute):plc (l++[a])=stepP (plc l) a.f_Type:=by simp [plc]
def cho (db:List T_Attribute):Nat→Int
  | 0=>-1
  | k+1=>match db[k]? with
    | none=>-1
    | some a=>if isN a.f_Type 10243=true then (k:Int) else if isv a.f_Type=true then -1 else cho db k
theorem isN_ne {u:T_UUID} {m n:Int} (h:isN u m=true) (hn:m≠n):isN u n=false:=by
  rw [isN_eq h,isN_sh]
  exact beq_false_of_ne hn
theorem char_not {u:T_UUID} (h:isN u 10243=true):isv u=false∧isN u 10498=false:=by
  unfold isv
  rw [isN_ne h (by decide),isN_ne h (by decide),isN_ne h (by decide)]
  exact⟨rfl,rfl⟩
theorem conf_not {u:T_UUID} (h:isN u 10498=true):isv u=false∧isN u 10243=false:=by
  unfold isv
  rw [isN_ne h (by decide),isN_ne h (by decide),isN_ne h (by decide)]
  exact⟨rfl,rfl⟩
theorem cho_plc (db:List T_Attribute):∀k,k≤db.length→(cho db k = -1∧(plc (db.take k)).char=false)∨∃c:Nat,c<k∧cho db k=c∧(plc (db.take k)).char=true∧((db.take k).drop c).any (fun a=>isN a.f_Type 10498)=(plc (db.take k)).config
  | 0,_=>.inl ⟨rfl,rfl⟩
  | k+1,hk=>by
    have hx:db[k]? = some db[k]:=List.getElem?_eq_getElem hk
    have ht:db.take (k+1)=db.take k++[db[k]]:=by rw [List.take_add_one,hx]; rfl
    have ih:=cho_plc db k (by omega)
    have hl:(db.take k).length=k:=by simp; omega
    rw [ht,plc_snoc]
    simp only [cho,hx]
    unfold stepP
    by_cases hc:isN db[k].f_Type 10243=true
    · obtain⟨h1,h2⟩:=char_not hc
      rw [if_pos hc,h1,if_neg (by decide),if_pos hc]
      refine .inr ⟨k,by omega,rfl,rfl,?_⟩
      rw [List.drop_append_of_le_length (by omega),List.drop_of_length_le (by omega)]
      simp [h2]
    · rw [if_neg hc]
      by_cases hs:isv db[k].f_Type=true
      · rw [if_pos hs,if_pos hs]
        exact .inl ⟨rfl,rfl⟩
      · rw [if_neg hs,if_neg hs,if_neg hc]
        by_cases hg:isN db[k].f_Type 10498=true
        · rw [if_pos hg]
          rcases ih with ⟨h1,h2⟩ | ⟨c,h0,h1,h2,h3⟩
          · exact .inl ⟨h1,h2⟩
          · refine .inr ⟨c,by omega,h1,h2,?_⟩
            rw [List.drop_append_of_le_length (by omega),List.any_append]
            simp [hg]
        · rw [if_neg hg]
          rcases ih with ⟨h1,h2⟩ | ⟨c,h0,h1,h2,h3⟩
          · exact .inl ⟨h1,h2⟩
          · refine .inr ⟨c,by omega,h1,h2,?_⟩
            rw [List.drop_append_of_le_length (by omega),List.any_append,h3]
            simp [(Bool.not_eq_true _).mp hg]
theorem rcharOf (F:Nat) (db:List T_Attribute) (i:Nat) (hi:i<db.length) (hF:i+5<F) (hn:db.length≤9000000000000000):wirelessref43_charOf F db i=some (cho db (i+1)):=by
  have key:∀(k f:Nat),k≤db.length→k<f→∃o,iter (fun s=>wirelessref43_charOf_l1 F db s) f ((k:Int) - 1)=some o∧(o = .inl ()∧cho db k = -1∨o = .inr (cho db k)):=by
    intro k
    induction k with
    | zero=>
      intro f _ hf
      obtain⟨f,rfl⟩:∃g,f=g+1:=⟨f - 1,by omega⟩
      exact⟨.inl (),iter_stop (by
        unfold wirelessref43_charOf_l1
        rw [if_neg (by simp)]),.inl ⟨rfl,rfl⟩⟩
    | succ k ih=>
      intro f hk hf
      obtain⟨f,rfl⟩:∃g,f=g+1:=⟨f - 1,by omega⟩
      have hx:db[k]? = some db[k]:=List.getElem?_eq_getElem hk
      have e:((k+1:Nat):Int) - 1=(k:Int):=by omega
      rw [e]
      have hb:wirelessref43_charOf_l1 F db (k:Int)=(if isN db[k].f_Type 10243=true then some (.done (.inr (k:Int))) else if isv db[k].f_Type=true then some (.done (.inr (-1))) else some (.next ((k:Int) - 1))):=by
        unfold wirelessref43_charOf_l1
        rw [if_pos (dt (by omega)),idx_nat,hx,Option.bind_some,rIsChar,Option.bind_some,Option.bind_some,rIsService,Option.bind_some,w64_id (by omega) (by omega)]
      have hcho:cho db (k+1)=if isN db[k].f_Type 10243=true then (k:Int) else if isv db[k].f_Type=true then -1 else cho db k:=by
        simp only [cho,hx]
      by_cases hc:isN db[k].f_Type 10243=true
      · rw [if_pos hc] at hb hcho
        exact⟨_,iter_stop hb,.inr (by rw [hcho])⟩
      · rw [if_neg hc] at hb hcho
        by_cases hs:isv db[k].f_Type=true
        · rw [if_pos hs] at hb hcho
          exact⟨_,iter_stop hb,.inr (by rw [hcho])⟩
        · rw [if_neg hs] at hb hcho
          obtain⟨o,h1,h2⟩:=ih f (by omega) (by omega)
          exact⟨o,by rw [iter_step hb,h1],by rw [hcho]; exact h2⟩
  unfold wirelessref43_charOf
  obtain⟨o,h,h2⟩:=key (i+1) F (by omega) (by omega)
  rw [show ((i+1:Nat):Int) - 1=(i:Int) from by omega] at h
  rw [h,Option.bind_some]
  rcases h2 with ⟨rfl,h2⟩ | rfl
  · rw [h2]; rfl
  · rfl
theorem rconfig (F:Nat) {db:List T_Attribute} {i:Nat} {a:T_Attribute} (hi:db[i]? = some a) (hg:isN a.f_Type 10498=true) (hn:db.length≤9000000000000000) (hF:db.length+20<F):wirelessref43_configWrong F db i=some ((len a.Value != 2 || !(plc (db.take i)).char)||(plc (db.take i)).config):=by
  have hil:=(List.getElem?_eq_some_iff.1 hi).1
  unfold wirelessref43_configWrong
  rw [rcharOf F db i hil (by omega) hn,Option.bind_some,idx_nat,hi,Option.bind_some]
  obtain⟨h1,h2⟩:=conf_not hg
  have hc:cho db (i+1)=cho db i:=by
    simp only [cho,hi,h1,h2,Bool.false_eq_true,if_false]
  rw [hc]
  by_cases hl:(len a.Value != 2)=true
  · rw [hl,Bool.true_or,if_pos rfl]; rfl
  · rw [(Bool.not_eq_true _).mp hl,Bool.false_or,Bool.false_or]
    rcases cho_plc db i (by omega) with ⟨h3,h4⟩ | ⟨c,h0,h3,h4,h5⟩
    · rw [h3,h4,if_pos (by decide)]; rfl
    · rw [h3,h4,if_neg (df (by omega))]
      have:=iter_any (body:=fun s=>wirelessref43_configWrong_l1 F db i s) (l:=db.take i) (p:=fun a=>isN a.f_Type 10498) (o:=Sum.inr true) (e:=Sum.inl ()) (by
        intro k x hx
        have hkl:=(List.getElem?_eq_some_iff.1 hx).1
        rw [List.length_take] at hkl
        rw [List.getElem?_take,if_pos (by omega)] at hx
        show wirelessref43_configWrong_l1 F db i (k:Int)=_
        unfold wirelessref43_configWrong_l1
        rw [if_pos (dt (by omega)),idx_nat,hx,Option.bind_some,rIs F _ _ (by decide) (by decide),Option.bind_some,w64_nat k (by omega)]
        split <;> rfl) (by
        rw [List.length_take,Nat.min_eq_left (by omega)]
        show wirelessref43_configWrong_l1 F db i (i:Int)=_
        unfold wirelessref43_configWrong_l1
        rw [if_neg (df (by omega))]) F c (by rw [List.length_take]; omega) (by rw [List.length_take]; omega)
      rw [this,h5,Option.bind_some]
      cases (plc (db.take i)).config <;> rfl
theorem rcharWrong (F:Nat) {db:List T_Attribute} {i:Nat} {a:T_Attribute} (hi:db[i]? = some a) (hn:db.length≤9000000000000000) (ha:AOk a) (hF:20<F):wirelessref43_charWrong F db i=some (cw db i a):=by
  have hil:=(List.getElem?_eq_some_iff.1 hi).1
  unfold wirelessref43_charWrong cw
  rw [idx_nat,hi,Option.bind_some,rparts F ha.b hF,Option.bind_some,rkept]
  have hw:w64 ((i:Int)+1)=((i+1:Nat):Int):=w64_nat i (by omega)
  have hz:((if (!(prt a.Value).2.2.2)=true then some true else (some (resv (prt a.Value).2.2.1)).bind fun x_14=>some x_14):Option Bool)=some (!(prt a.Value).2.2.2||resv (prt a.Value).2.2.1):=by
    cases (prt a.Value).2.2.2 <;> rfl
  rw [hz,Option.bind_some,hw,idx_nat]
  by_cases hl:i+1<db.length
  · rw [List.getElem?_eq_getElem hl]
    simp only [Option.bind_some]
    by_cases hr:(!(prt a.Value).2.2.2||resv (prt a.Value).2.2.1)=true
    · rw [hr,Bool.true_or,if_pos rfl,Bool.true_or]
    · rw [(Bool.not_eq_true _).mp hr,Bool.false_or,if_neg (df (by rw [len_nat]; omega)),Bool.false_or]
      by_cases hh:(db[i+1].Handle != (prt a.Value).2.1)=true
      · rw [if_pos hh,hh]; rfl
      · rw [if_neg hh,(Bool.not_eq_true _).mp hh]; rfl
  · rw [List.getElem?_eq_none (by omega),if_pos (by
      rw [Bool.or_eq_true]
      exact .inr (dt (by rw [len_nat]; omega)))]
theorem rwrong (F:Nat) {db:List T_Attribute} {i:Nat} {a:T_Attribute} (hi:db[i]? = some a) (hn:db.length≤9000000000000000) (ha:AOk a) (hF:db.length+20<F):wirelessref43_wrong F db i=some (wrg db i (plc (db.take i)) a):=by
  unfold wirelessref43_wrong wrg
  rw [idx_nat,hi,Option.bind_some,rIsService,rdeclares]
  have hz:((if ((i:Int) == 0)=true then (some (isv a.f_Type)).bind fun x_25=>some !x_25 else some false):Option Bool)=some ((i:Int) == 0 && !isv a.f_Type):=by
    cases ((i:Int) == 0) <;> rfl
  rw [hz,Option.bind_some]
  have hz2:((if ((i:Int) == 0 && !isv a.f_Type)=true then some true else (some (decl a.f_Type)).bind fun x_22=>if x_22=true then some (iand IntKind.i64 a.Perms 2 != 0) else some false):Option Bool)=some (((i:Int) == 0 && !isv a.f_Type)||(decl a.f_Type&&(iand .i64 a.Perms 2 != 0))):=by
    cases ((i:Int) == 0 && !isv a.f_Type) <;> cases decl a.f_Type <;> rfl
  rw [hz2,Option.bind_some]
  by_cases hq:(((i:Int) == 0 && !isv a.f_Type)||(decl a.f_Type&&(iand .i64 a.Perms 2 != 0)))=true
  · rw [if_pos hq,if_pos hq]
  · rw [if_neg hq,if_neg hq,Option.bind_some]
    by_cases hs:isv a.f_Type=true
    · rw [if_pos hs,if_pos hs,rdecode F ha.b (by omega),Option.bind_some]
    · rw [if_neg hs,if_neg hs,rIsChar,Option.bind_some,rcharWrong F hi hn ha (by omega),rIs F _ _ (by decide) (by decide)]
      by_cases hc:isN a.f_Type 10243=true
      · rw [if_pos hc,if_pos hc,Option.bind_some,Option.bind_some,(char_not hc).2]
        cases cw db i a <;> rfl
      · rw [if_neg hc,if_neg hc,Option.bind_some,if_neg (by decide),Option.bind_some]
        by_cases hg:isN a.f_Type 10498=true
        · rw [if_pos hg,if_pos hg,rconfig F hi hg hn hF,Option.bind_some,Option.bind_some]
        · rw [if_neg hg,if_neg hg,Option.bind_some]
theorem check_same (F:Nat) (db:List T_Attribute) (hdb:∀a∈db,AOk a) (hn:db.length≤9000000000000000) (hF:db.length+20<F):∃e,database_Check F db=some e∧wirelessref43_Check F db=some e:=by
  unfold database_Check wirelessref43_Check
  by_cases hl:len db > 1000
  · rw [if_pos (dt hl),if_pos (dt hl)]
    exact⟨_,rfl,rfl⟩
  · rw [if_neg (df hl),if_neg (df hl)]
    obtain⟨o1,o2,h1,h2,h3⟩:=iter_sim (b1:=fun s:Int×T_database_place×Int=>database_Check_l1 F db s.1 s.2.1 s.2.2) (b2:=fun s:Int×Int=>wirelessref43_Check_l1 F db s.1 s.2)
      (fun s t=>∃i:Nat,i≤db.length∧s=(t.1,plc (db.take i),(i:Int))∧t.2=(i:Int)) (fun a b=>a=b) (fun s=>db.length - s.2.2.toNat) (by
      rintro s ⟨last,x⟩ ⟨i,hi,rfl,hx⟩
      simp only at hx
      subst hx
      show (∃t1 t2,database_Check_l1 F db last (plc (db.take i)) (i:Int)=some (.next t1)∧wirelessref43_Check_l1 F db last (i:Int)=some (.next t2)∧_)∨∃o1 o2,database_Check_l1 F db last (plc (db.take i)) (i:Int)=some (.done o1)∧wirelessref43_Check_l1 F db last (i:Int)=some (.done o2)∧_
      unfold database_Check_l1 wirelessref43_Check_l1
      by_cases hin:i<db.length
      · have hxa:db[i]? = some db[i]:=List.getElem?_eq_getElem hin
        have ha:=hdb _ (List.getElem_mem hin)
        generalize hq:db[i]=a at hxa ha
        rw [if_pos (dt (show (i:Int)<len db by rw [len_nat]; omega)),if_pos (dt (show (i:Int)<len db by rw [len_nat]; omega)),idx_nat,hxa]
        simp only [Option.bind_some]
        by_cases h1:a.Handle≤last
        · rw [if_pos (dt h1),if_pos (dt h1)]
          exact .inr ⟨_,_,rfl,rfl,rfl⟩
        · rw [if_neg (df h1),if_neg (df h1)]
          have hp:((if decide (a.Perms<0)=true then some true else some (decide (a.Perms > 15))):Option Bool)=some (decide (a.Perms<0)||decide (a.Perms > 15)):=by
            cases decide (a.Perms<0) <;> rfl
          rw [hp,Option.bind_some]
          by_cases h2:(decide (a.Perms<0)||decide (a.Perms > 15))=true
          · rw [if_pos h2,if_pos h2]
            exact .inr ⟨_,_,rfl,rfl,rfl⟩
          · rw [if_neg h2,if_neg h2]
            by_cases h3:len a.Value > 512
            · rw [if_pos (dt h3),if_pos (dt h3)]
              exact .inr ⟨_,_,rfl,rfl,rfl⟩
            · rw [if_neg (df h3),if_neg (df h3),uwrong F _ hxa hn ha (by omega),rwrong F hxa hn ha hF,Option.bind_some,Option.bind_some]
              by_cases h4:wrg db i (plc (db.take i)) a=true
              · rw [if_pos h4,if_pos h4]
                exact .inr ⟨_,_,rfl,rfl,rfl⟩
              · rw [if_neg h4,if_neg h4,service_ok F ha.u (by omega),is1 F ha.u 10243 (by omega) (by decide) (by decide),is1 F ha.u 10498 (by omega) (by decide) (by decide)]
                simp only [Option.bind_some]
                have ht:plc (db.take (i+1))=stepP (plc (db.take i)) a.f_Type:=by
                  rw [List.take_add_one,hxa]
                  exact plc_snoc _ _
                have hw:=w64_nat i (by omega)
                refine .inl ⟨(a.Handle,plc (db.take (i+1)),((i+1:Nat):Int)),(a.Handle,((i+1:Nat):Int)),?_,by rw [hw],⟨i+1,by omega,rfl,rfl⟩,by simp only; omega⟩
                rw [ht]
                unfold stepP database_Check_j2
                rw [hw]
                split
                · rfl
                · split
                  · rfl
                  · split <;> rfl
      · rw [if_neg (df (show ¬ (i:Int)<len db by rw [len_nat]; omega)),if_neg (df (show ¬ (i:Int)<len db by rw [len_nat]; omega))]
        exact .inr ⟨_,_,rfl,rfl,rfl⟩) F (0,T_database_place.mk false false,0) (0,0) ⟨0,by omega,rfl,rfl⟩ (by simp only; omega)
    rw [h1,h2,h3]
    simp only [Option.bind_some]
    cases o2 with
    | inl u=>exact⟨_,rfl,rfl⟩
    | inr e=>exact⟨_,rfl,rfl⟩
end V
end Go.Proofs.YtoahakdkgefgiaaGreat

namespace Go.Proofs.YtoahakdkgefgiaaGreat
namespace V
theorem rcheck_good (F:Nat) (db:List T_Attribute) (hdb:∀a∈db,AOk a) (hn:db.length≤9000000000000000) (hF:db.length+20<F) (h:wirelessref43_Check F db=some 0):(∀i a b,db[i]? = some a→db[i+1]? = some b→a.Handle<b.Handle)∧(∀a,db[0]? = some a→isv a.f_Type=true)∧∀a∈db,0<a.Handle:=by
  unfold wirelessref43_Check at h
  by_cases hl:len db > 1000
  · rw [if_pos (dt hl)] at h; cases h
  · rw [if_neg (df hl)] at h
    obtain⟨o,h1,h2⟩:=iter_by (body:=fun s:Int×Int=>wirelessref43_Check_l1 F db s.1 s.2)
      (fun s=>∃i:Nat,s.2=(i:Int)∧i≤db.length∧0≤s.1∧(∀j a b,j+1<i→db[j]? = some a→db[j+1]? = some b→a.Handle<b.Handle)∧(∀a,0<i→db[0]? = some a→isv a.f_Type=true)∧(∀j a,j+1=i→db[j]? = some a→a.Handle=s.1)∧(∀a∈db.take i,0<a.Handle))
      (fun o=>o = .inl ()→(∀i a b,db[i]? = some a→db[i+1]? = some b→a.Handle<b.Handle)∧(∀a,db[0]? = some a→isv a.f_Type=true)∧∀a∈db,0<a.Handle) (fun s=>db.length - s.2.toNat) (by
      rintro⟨last,x⟩ ⟨i,hx,hi,hp,hs,hf,hlast,hpos⟩
      simp only at hx hp hlast
      subst hx
      show (∃s',wirelessref43_Check_l1 F db last (i:Int)=some (.next s')∧_)∨∃o,wirelessref43_Check_l1 F db last (i:Int)=some (.done o)∧_
      unfold wirelessref43_Check_l1
      by_cases hin:i<db.length
      · have hxa:db[i]? = some db[i]:=List.getElem?_eq_getElem hin
        have ha:=hdb _ (List.getElem_mem hin)
        generalize hq:db[i]=a at hxa ha
        rw [if_pos (dt (show (i:Int)<len db by rw [len_nat]; omega)),idx_nat,hxa]
        simp only [Option.bind_some]
        by_cases h1:a.Handle≤last
        · rw [if_pos (dt h1)]
          exact .inr ⟨_,rfl,fun h=>by cases h⟩
        · rw [if_neg (df h1)]
          have hp2:((if decide (a.Perms<0)=true then some true else some (decide (a.Perms > 15))):Option Bool)=some (decide (a.Perms<0)||decide (a.Perms > 15)):=by
            cases decide (a.Perms<0) <;> rfl
          rw [hp2,Option.bind_some]
          by_cases h2:(decide (a.Perms<0)||decide (a.Perms > 15))=true
          · rw [if_pos h2]
            exact .inr ⟨_,rfl,fun h=>by cases h⟩
          · rw [if_neg h2]
            by_cases h3:len a.Value > 512
            · rw [if_pos (dt h3)]
              exact .inr ⟨_,rfl,fun h=>by cases h⟩
            · rw [if_neg (df h3),rwrong F hxa hn ha hF,Option.bind_some]
              by_cases h4:wrg db i (plc (db.take i)) a=true
              · rw [if_pos h4]
                exact .inr ⟨_,rfl,fun h=>by cases h⟩
              · rw [if_neg h4]
                refine .inl ⟨_,rfl,⟨i+1,?_,by omega,?_,?_,?_,?_,?_⟩,?_⟩
                · simp only; exact w64_nat i (by omega)
                · simp only; exact ha.h0
                · intro j c d hj hc hd
                  by_cases hji:j+1<i
                  · exact hs j c d hji hc hd
                  · have:j+1=i:=by omega
                    rw [this,hxa] at hd
                    injection hd with hd
                    subst hd
                    rw [hlast j c this hc]
                    omega
                · intro c _ hc
                  by_cases hi0:0<i
                  · exact hf c hi0 hc
                  · have:i=0:=by omega
                    subst this
                    rw [hxa] at hc
                    injection hc with hc
                    subst hc
                    cases hv:isv a.f_Type with
                    | true=>rfl
                    | false=>
                      exfalso
                      apply h4
                      unfold wrg
                      rw [if_pos (by rw [hv]; rfl)]
                · intro j c hj hc
                  have:j=i:=by omega
                  subst this
                  rw [hxa] at hc
                  injection hc with hc
                  rw [hc]
                · intro c hc
                  rw [List.take_add_one,hxa] at hc
                  rcases List.mem_append.1 hc with hc | hc
                  · exact hpos c hc
                  · simp at hc; subst hc; omega
                · simp only; rw [w64_nat i (by omega)]; omega
      · rw [if_neg (df (show ¬ (i:Int)<len db by rw [len_nat]; omega))]
        have hil:i=db.length:=by omega
        refine .inr ⟨_,rfl,fun _=>⟨fun j c d hc hd=>hs j c d ?_ hc hd,fun c hc=>hf c ?_ hc,fun c hc=>hpos c ?_⟩⟩
        · rw [hil]; exact (List.getElem?_eq_some_iff.1 hd).1
        · rw [hil]; exact (List.getElem?_eq_some_iff.1 hc).1
        · rw [hil,List.take_length]; exact hc) F (0,0) ⟨0,rfl,by omega,by simp,by intro j a b hj; omega,by intro a h; omega,by intro j a hj; omega,by simp⟩ (by simp only; omega)
    rw [h1,Option.bind_some] at h
    cases o with
    | inl u=>exact h2 rfl
    | inr e=>
      simp only [Option.some.injEq] at h
      exfalso
      obtain⟨o',g1,g2⟩:=iter_by (body:=fun s:Int×Int=>wirelessref43_Check_l1 F db s.1 s.2) (fun s=>∃i:Nat,s.2=(i:Int)∧i≤db.length) (fun o=>∀e,o = .inr e→e≠0) (fun s=>db.length - s.2.toNat) (by
        rintro⟨last,x⟩ ⟨i,hx,hi⟩
        simp only at hx
        subst hx
        show (∃s',wirelessref43_Check_l1 F db last (i:Int)=some (.next s')∧_)∨∃o,wirelessref43_Check_l1 F db last (i:Int)=some (.done o)∧_
        unfold wirelessref43_Check_l1
        by_cases hin:i<db.length
        · have hxa:db[i]? = some db[i]:=List.getElem?_eq_getElem hin
          have ha:=hdb _ (List.getElem_mem hin)
          generalize hq:db[i]=a at hxa ha
          rw [if_pos (dt (show (i:Int)<len db by rw [len_nat]; omega)),idx_nat,hxa]
          simp only [Option.bind_some]
          have hp2:((if decide (a.Perms<0)=true then some true else some (decide (a.Perms > 15))):Option Bool)=some (decide (a.Perms<0)||decide (a.Perms > 15)):=by
            cases decide (a.Perms<0) <;> rfl
          rw [hp2,Option.bind_some,rwrong F hxa hn ha hF,Option.bind_some]
          split
          · exact .inr ⟨_,rfl,fun e h=>by injection h with h; subst h; decide⟩
          · split
            · exact .inr ⟨_,rfl,fun e h=>by injection h with h; subst h; decide⟩
            · split
              · exact .inr ⟨_,rfl,fun e h=>by injection h with h; subst h; decide⟩
              · split
                · exact .inr ⟨_,rfl,fun e h=>by injection h with h; subst h; decide⟩
                · exact .inl ⟨_,rfl,⟨i+1,by simp only; exact w64_nat i (by omega),by omega⟩,by simp only; rw [w64_nat i (by omega)]; omega⟩
        · rw [if_neg (df (show ¬ (i:Int)<len db by rw [len_nat]; omega))]
          exact .inr ⟨_,rfl,fun e h=>by cases h⟩) F (0,0) ⟨0,rfl,by omega⟩ (by simp only; omega)
      rw [g1] at h1
      injection h1 with h1
      exact g2 e h1 h
def fnd (db:List T_Attribute) (h:Int):Int:=match db.findIdx? (fun a=>a.Handle == h) with
  | some k=>(k:Int)
  | none=>-1
theorem rfind (F:Nat) (db:List T_Attribute) (h:Int) (hn:db.length≤9000000000000000) (hF:db.length<F):wirelessref43_Find F db h=some (fnd db h):=by
  unfold wirelessref43_Find
  have:=iter_find (body:=fun s:Int=>wirelessref43_Find_l1 F db h s) (fun i=>(i:Int)) (l:=db) (p:=fun a=>a.Handle == h) (g:=fun k=>Sum.inr (k:Int)) (e:=Sum.inl ()) (by
    intro i x hx
    have hi:=(List.getElem?_eq_some_iff.1 hx).1
    show wirelessref43_Find_l1 F db h (i:Int)=_
    unfold wirelessref43_Find_l1
    rw [if_pos (dt (by rw [len_nat]; omega)),idx_nat,hx,Option.bind_some,w64_nat i (by omega)]
    split <;> rfl) (by
    show wirelessref43_Find_l1 F db h _=_
    unfold wirelessref43_Find_l1
    rw [if_neg (df (by rw [len_nat]; omega))]) F 0 (by omega) (by omega)
  rw [show ((0:Nat):Int)=0 from rfl] at this
  rw [this,Option.bind_some,List.drop_zero]
  unfold fnd
  cases db.findIdx? (fun a=>a.Handle == h) with
  | none=>rfl
  | some k=>simp
theorem sameDB (F:Nat) (db:List T_Attribute) (hn:db.length≤9000000000000000) (hF:db.length<F):wirelessref43_SameDB F db db=some true:=by
  unfold wirelessref43_SameDB
  rw [if_neg (by simp)]
  have:=iter_count (body:=fun s:Int=>wirelessref43_SameDB_l1 F db db s) (fun i=>(i:Int)) db.length (.inl ()) (by
    intro i hi
    have hx:db[i]? = some db[i]:=List.getElem?_eq_getElem hi
    show wirelessref43_SameDB_l1 F db db (i:Int)=_
    unfold wirelessref43_SameDB_l1
    rw [if_pos (dt (by rw [len_nat]; omega)),idx_nat,hx]
    simp only [Option.bind_some]
    rw [if_neg (by simp),if_neg (by simp),if_neg (by simp),same_refl,Option.bind_some]
    unfold wirelessref43_SameDB_j2
    rw [if_neg (by decide),w64_nat i (by omega)]) (by
    show wirelessref43_SameDB_l1 F db db _=_
    unfold wirelessref43_SameDB_l1
    rw [if_neg (df (by rw [len_nat]; omega))]) F 0 (by omega) (by omega)
  rw [show ((0:Nat):Int)=0 from rfl] at this
  rw [this]
  rfl
structure Good (db:List T_Attribute):Prop where
  g:∀(i:Nat) a,db[i]? = some a→0≤a.Perms∧a.Perms≤15∧a.Value.length≤512∧wrg db i (plc (db.take i)) a=false
theorem rcheck_all (F:Nat) (db:List T_Attribute) (hdb:∀a∈db,AOk a) (hn:db.length≤9000000000000000) (hF:db.length+20<F) (h:wirelessref43_Check F db=some 0):Good db:=by
  unfold wirelessref43_Check at h
  by_cases hl:len db > 1000
  · rw [if_pos (dt hl)] at h; cases h
  · rw [if_neg (df hl)] at h
    obtain⟨o,h1,h2⟩:=iter_by (body:=fun s:Int×Int=>wirelessref43_Check_l1 F db s.1 s.2)
      (fun s=>∃i:Nat,s.2=(i:Int)∧i≤db.length∧∀j a,j<i→db[j]? = some a→0≤a.Perms∧a.Perms≤15∧a.Value.length≤512∧wrg db j (plc (db.take j)) a=false)
      (fun o=>(∀e,o = .inr e→e≠0)∧(o = .inl ()→Good db)) (fun s=>db.length - s.2.toNat) (by
      rintro⟨last,x⟩ ⟨i,hx,hi,hp⟩
      simp only at hx
      subst hx
      show (∃s',wirelessref43_Check_l1 F db last (i:Int)=some (.next s')∧_)∨∃o,wirelessref43_Check_l1 F db last (i:Int)=some (.done o)∧_
      unfold wirelessref43_Check_l1
      by_cases hin:i<db.length
      · have hxa:db[i]? = some db[i]:=List.getElem?_eq_getElem hin
        have ha:=hdb _ (List.getElem_mem hin)
        generalize hq:db[i]=a at hxa ha
        rw [if_pos (dt (show (i:Int)<len db by rw [len_nat]; omega)),idx_nat,hxa]
        simp only [Option.bind_some]
        by_cases h1:a.Handle≤last
        · rw [if_pos (dt h1)]
          exact .inr ⟨_,rfl,(fun e h=>by injection h with h; subst h; decide),fun h=>by cases h⟩
        · rw [if_neg (df h1)]
          have hp2:((if decide (a.Perms<0)=true then some true else some (decide (a.Perms > 15))):Option Bool)=some (decide (a.Perms<0)||decide (a.Perms > 15)):=by
            cases decide (a.Perms<0) <;> rfl
          rw [hp2,Option.bind_some]
          by_cases h2:(decide (a.Perms<0)||decide (a.Perms > 15))=true
          · rw [if_pos h2]
            exact .inr ⟨_,rfl,(fun e h=>by injection h with h; subst h; decide),fun h=>by cases h⟩
          · rw [if_neg h2]
            by_cases h3:len a.Value > 512
            · rw [if_pos (dt h3)]
              exact .inr ⟨_,rfl,(fun e h=>by injection h with h; subst h; decide),fun h=>by cases h⟩
            · rw [if_neg (df h3),rwrong F hxa hn ha hF,Option.bind_some]
              by_cases h4:wrg db i (plc (db.take i)) a=true
              · rw [if_pos h4]
                exact .inr ⟨_,rfl,(fun e h=>by injection h with h; subst h; decide),fun h=>by cases h⟩
              · rw [if_neg h4]
                rw [len_nat] at h3
                simp only [Bool.or_eq_true,decide_eq_true_eq] at h2
                refine .inl ⟨_,rfl,⟨i+1,by simp only; exact w64_nat i (by omega),by omega,?_⟩,by simp only; rw [w64_nat i (by omega)]; omega⟩
                intro j c hj hc
                by_cases hji:j<i
                · exact hp j c hji hc
                · have:j=i:=by omega
                  subst this
                  rw [hxa] at hc
                  injection hc with hc
                  subst hc
                  exact⟨by omega,by omega,by omega,(Bool.not_eq_true _).mp h4⟩
      · rw [if_neg (df (show ¬ (i:Int)<len db by rw [len_nat]; omega))]
        refine .inr ⟨_,rfl,(fun e h=>by cases h),fun _=>⟨fun j c hc=>hp j c ?_ hc⟩⟩
        have:=(List.getElem?_eq_some_iff.1 hc).1
        omega) F (0,0) ⟨0,rfl,by omega,by intro j a hj; omega⟩ (by simp only; omega)
    rw [h1,Option.bind_some] at h
    cases o with
    | inl u=>exact h2.2 rfl
    | inr e=>
      simp only [Option.some.injEq] at h
      exact absurd h (h2.1 e rfl)
theorem char_prt {db:List T_Attribute} (hg:Good db) {a:T_Attribute} (ha:a∈db) (hc:isN a.f_Type 10243=true):(prt a.Value).2.2.2=true:=by
  obtain⟨i,hi⟩:=List.getElem?_of_mem ha
  obtain⟨_,_,_,h⟩:=hg.g i a hi
  unfold wrg at h
  rw [(char_not hc).1,hc] at h
  by_cases h1:(((i:Int) == 0 && !false)||(decl a.f_Type&&(iand .i64 a.Perms 2 != 0)))=true
  · rw [if_pos h1] at h; cases h
  · rw [if_neg h1,if_neg (by decide),if_pos rfl] at h
    unfold cw at h
    cases hn:db[i+1]? with
    | none=>rw [hn] at h; cases h
    | some b=>
      rw [hn] at h
      simp only [Bool.or_eq_false_iff,Bool.not_eq_false'] at h
      exact h.1.1
end V
end Go.Proofs.YtoahakdkgefgiaaGreat

namespace Go.Proofs.YtoahakdkgefgiaaGreat
namespace V
theorem sis (F:Nat) (u:T_UUID) (n:Int) (h0:0≤n) (h1:n<65536):server_is F u n=some (isN u n):=by
  unfold server_is
  rw [ushort F n h0 h1,Option.bind_some]
  rfl
def free (db:List T_Attribute) (i k:Nat):Prop:=∀(j:Nat) b,i<j→j<k→db[j]? = some b→isv b.f_Type=false∧isN b.f_Type 10243=false
def conf (db:List T_Attribute) (j:Nat):Prop:=∃b,db[j]? = some b∧isN b.f_Type 10498=true
def chr (db:List T_Attribute) (c:Nat) (a:T_Attribute):Prop:=db[c]? = some a∧isN a.f_Type 10243=true
theorem cho_char (db:List T_Attribute):∀(k c:Nat),cho db k=(c:Int)→c<k∧(∃a,chr db c a)∧free db c k
  | 0,c,h=>by simp only [cho] at h; omega
  | k+1,c,h=>by
    simp only [cho] at h
    cases hx:db[k]? with
    | none=>rw [hx] at h; simp only at h; omega
    | some a=>
      rw [hx] at h
      simp only at h
      by_cases h1:isN a.f_Type 10243=true
      · rw [if_pos h1] at h
        have:c=k:=by omega
        subst this
        exact⟨by omega,⟨a,hx,h1⟩,by intro j b h2 h3; omega⟩
      · rw [if_neg h1] at h
        by_cases h2:isv a.f_Type=true
        · rw [if_pos h2] at h; omega
        · rw [if_neg h2] at h
          obtain⟨g1,g2,g3⟩:=cho_char db k c h
          refine ⟨by omega,g2,fun j b h3 h4 h5=>?_⟩
          by_cases hj:j<k
          · exact g3 j b h3 hj h5
          · have:j=k:=by omega
            subst this
            rw [hx] at h5
            injection h5 with h5
            subst h5
            exact⟨(Bool.not_eq_true _).mp h2,(Bool.not_eq_true _).mp h1⟩
theorem cho_is (db:List T_Attribute) (c:Nat) (a:T_Attribute) (h:chr db c a):∀k,c<k→k≤db.length→free db c k→cho db k=(c:Int)
  | 0,h0,_,_=>by omega
  | k+1,h0,hk,hf=>by
    have hx:db[k]? = some db[k]:=List.getElem?_eq_getElem (by omega)
    simp only [cho,hx]
    by_cases hc:c=k
    · subst hc
      rw [h.1] at hx
      injection hx with hx
      rw [← hx,if_pos h.2]
    · obtain⟨h1,h2⟩:=hf k _ (by omega) (by omega) hx
      rw [h1,h2,if_neg (by decide),if_neg (by decide)]
      exact cho_is db c a h k (by omega) (by omega) (fun j b h3 h4=>hf j b h3 (by omega))
theorem prt3 {b:List Int} (h:(prt b).2.2.2=true):¬ b.length<3:=by
  intro h3
  unfold prt at h
  rw [if_pos h3] at h
  cases h
theorem uowner (F:Nat) {db:List T_Attribute} (hdb:∀a∈db,AOk a) (hg:Good db) (i:Nat) (hi:i<db.length) (hn:db.length≤9000000000000000) (hF:db.length+5<F):(cho db (i+1) = -1∧server_owner F db i=some (0,0,false))∨∃c a,cho db (i+1)=((c:Nat):Int)∧chr db c a∧server_owner F db i=some ((prt a.Value).1,(prt a.Value).2.1,true):=by
  have key:∀(k f:Nat),k≤db.length→k<f→(cho db k = -1∧iter (fun s=>server_owner_l1 F db s) f ((k:Int) - 1)=some (.inl ()))∨∃c a,cho db k=((c:Nat):Int)∧chr db c a∧iter (fun s=>server_owner_l1 F db s) f ((k:Int) - 1)=some (.inr ((prt a.Value).1,(prt a.Value).2.1,true)):=by
    intro k
    induction k with
    | zero=>
      intro f _ hf
      match f,hf with
      | f+1,_=>
      refine .inl ⟨rfl,iter_stop ?_⟩
      show server_owner_l1 F db _=_
      unfold server_owner_l1
      rw [if_neg (df (by omega))]
      rfl
    | succ k ih=>
      intro f hk hf
      match f,hf with
      | f+1,hf=>
      have hx:db[k]? = some db[k]:=List.getElem?_eq_getElem (by omega)
      have ha:=hdb _ (List.getElem_mem (show k<db.length by omega))
      have hm:=List.getElem_mem (show k<db.length by omega)
      generalize hq:db[k]=a at hx ha hm
      rw [show ((k+1:Nat):Int) - 1=(k:Int) from by omega]
      have hcho:cho db (k+1)=if isN a.f_Type 10243=true then (k:Int) else if isv a.f_Type=true then -1 else cho db k:=by simp only [cho,hx]
      have hb:server_owner_l1 F db (k:Int)=if isv a.f_Type=true then some (.done (.inl ())) else if isN a.f_Type 10243=true then some (.done (.inr ((prt a.Value).1,(prt a.Value).2.1,true))) else some (.next ((k:Int) - 1)):=by
        unfold server_owner_l1
        rw [if_pos (dt (by omega)),idx_nat,hx]
        simp only [Option.bind_some]
        rw [sis F _ _ (by decide) (by decide),sis F _ _ (by decide) (by decide),sis F _ _ (by decide) (by decide)]
        simp only [Option.bind_some]
        unfold isv
        cases h1:isN a.f_Type 10240 with
        | true=>rfl
        | false=>
        cases h2:isN a.f_Type 10241 with
        | true=>rfl
        | false=>
        cases h3:isN a.f_Type 10243 with
        | false=>
          show some (Out.next (w64 ((k:Int) - 1)))=some (.next ((k:Int) - 1))
          rw [w64_id (by omega) (by omega)]
        | true=>
          have hl:=prt3 (char_prt hg hm h3)
          simp only [Bool.not_false,if_true,Bool.true_and,Bool.or_self,Bool.false_eq_true,if_false]
          rw [if_pos (dt (show len a.Value > 2 by rw [len_nat]; omega))]
          match hv:a.Value,hl,ha.b with
          | x::y::z::r,_,hb=>
            obtain⟨x0,x1⟩:=hb x (by simp)
            have hy:=hb y (by simp)
            have hz:=hb z (by simp)
            rw [show idx (x::y::z::r) 0=some x from rfl,show idx (x::y::z::r) 1=some y from rfl,show idx (x::y::z::r) 2=some z from rfl,Option.bind_some,if_pos rfl]
            simp only [Option.bind_some]
            rw [word16 hy hz,w64_id (by omega) (by omega)]
            unfold server_owner_j2 prt
            rw [if_neg (by simp)]
            simp [num]
          | [],h,_=>exact absurd (by simp) h
          | [_],h,_=>exact absurd (by simp) h
          | [_,_],h,_=>exact absurd (by simp) h
      by_cases hc:isN a.f_Type 10243=true
      · rw [if_pos hc,(char_not hc).1,if_neg (by decide)] at hb
        rw [if_pos hc] at hcho
        exact .inr ⟨k,a,hcho,⟨hx,hc⟩,iter_stop hb⟩
      · rw [if_neg hc] at hcho hb
        by_cases hs:isv a.f_Type=true
        · rw [if_pos hs] at hb hcho
          exact .inl ⟨hcho,iter_stop hb⟩
        · rw [if_neg hs] at hb hcho
          rw [hcho,iter_step hb]
          exact ih f (by omega) (by omega)
  unfold server_owner
  rcases key (i+1) F (by omega) (by omega) with ⟨h1,h2⟩ | ⟨c,a,h1,h2,h3⟩
  · rw [show ((i+1:Nat):Int) - 1=(i:Int) from by omega] at h2
    refine .inl ⟨h1,?_⟩
    rw [h2]; rfl
  · rw [show ((i+1:Nat):Int) - 1=(i:Int) from by omega] at h3
    refine .inr ⟨c,a,h1,h2,?_⟩
    rw [h3]; rfl
def bt (p:Int):Int:=(if iand .i64 p 16 != 0 then 1 else 0)+(if iand .i64 p 32 != 0 then 2 else 0)
theorem ubits (F:Nat) (p:Int):server_bits F p=some (bt p):=by
  unfold server_bits bt server_bits_j1 server_bits_j2
  by_cases h1:(iand .i64 p 16 != 0)=true
  · rw [if_pos h1,if_pos h1]
    by_cases h2:(iand .i64 p 32 != 0)=true
    · rw [if_pos h2,if_pos h2]; rfl
    · rw [if_neg h2,if_neg h2]; rfl
  · rw [if_neg h1,if_neg h1]
    by_cases h2:(iand .i64 p 32 != 0)=true
    · rw [if_pos h2,if_pos h2]; rfl
    · rw [if_neg h2,if_neg h2]; rfl
def hit (db:List T_Attribute) (h:Int) (j c:Nat) (a:T_Attribute):Prop:=conf db j∧cho db (j+1)=(c:Int)∧chr db c a∧(prt a.Value).2.1=h
theorem usub (F:Nat) {db:List T_Attribute} (hdb:∀a∈db,AOk a) (hg:Good db) (h:Int) (hn:db.length≤9000000000000000) (hF:db.length+5<F):(server_subscribable F db h=some (0,false)∧∀j c a,¬ hit db h j c a)∨∃j c a,hit db h j c a∧server_subscribable F db h=some (bt (prt a.Value).1,true):=by
  obtain⟨o,h1,h2⟩:=iter_by (body:=fun s:Int=>server_subscribable_l1 F db h s) (fun s=>∃i:Nat,s=(i:Int)∧i≤db.length∧∀j c a,j<i→¬ hit db h j c a)
    (fun o=>(o = .inl ()∧∀j c a,¬ hit db h j c a)∨∃j c a,hit db h j c a∧o = .inr (bt (prt a.Value).1,true)) (fun s=>db.length - s.toNat) (by
    rintro s ⟨i,rfl,hi,hno⟩
    show (∃s',server_subscribable_l1 F db h (i:Int)=some (.next s')∧_)∨∃o,server_subscribable_l1 F db h (i:Int)=some (.done o)∧_
    unfold server_subscribable_l1
    by_cases hin:i<db.length
    · have hx:db[i]? = some db[i]:=List.getElem?_eq_getElem hin
      generalize hq:db[i]=a at hx
      rw [if_pos (dt (show (i:Int)<len db by rw [len_nat]; omega)),idx_nat,hx,Option.bind_some,sis F _ _ (by decide) (by decide),Option.bind_some]
      have hnext:(∀c b,¬ hit db h i c b)→(∃s',server_subscribable_j2 F (i:Int)=some (.next s')∧(∃i:Nat,s'=(i:Int)∧i≤db.length∧∀j c a,j<i→¬ hit db h j c a)∧db.length - s'.toNat<db.length - (i:Int).toNat):=by
        intro hq
        refine ⟨_,rfl,⟨i+1,w64_nat i (by omega),by omega,fun j c b hj=>?_⟩,by rw [w64_nat i (by omega)]; omega⟩
        by_cases hji:j<i
        · exact hno j c b hji
        · have:j=i:=by omega
          subst this
          exact hq c b
      cases hc:isN a.f_Type 10498 with
      | false=>
        refine .inl (hnext fun c b hh=>?_)
        obtain⟨⟨d,hd,hd2⟩,_⟩:=hh
        rw [hx] at hd
        injection hd with hd
        rw [← hd,hc] at hd2
        cases hd2
      | true=>
        rw [if_neg (by decide)]
        rcases uowner F hdb hg i hin hn hF with ⟨g1,g2⟩ | ⟨c,b,g1,g2,g3⟩
        · rw [g2,Option.bind_some]
          refine .inl (hnext fun c b hh=>?_)
          have:=hh.2.1
          omega
        · rw [g3,Option.bind_some]
          by_cases hv:(prt b.Value).2.1=h
          · rw [if_pos (by simp [hv]),ubits,Option.bind_some]
            exact .inr ⟨_,rfl,.inr ⟨i,c,b,⟨⟨a,hx,hc⟩,g1,g2,hv⟩,rfl⟩⟩
          · rw [if_neg (by simp [hv])]
            refine .inl (hnext fun c' b' hh=>hv ?_)
            have e:c'=c:=by have:=hh.2.1; omega
            subst e
            have:=hh.2.2.1.1
            rw [g2.1] at this
            injection this with this
            rw [this]
            exact hh.2.2.2
    · rw [if_neg (df (show ¬ (i:Int)<len db by rw [len_nat]; omega))]
      refine .inr ⟨_,rfl,.inl ⟨rfl,fun j c a hh=>?_⟩⟩
      obtain⟨⟨d,hd,_⟩,_⟩:=id hh
      have:=(List.getElem?_eq_some_iff.1 hd).1
      exact hno j c a (by omega) hh) F 0 ⟨0,rfl,by omega,by intro j c a hj; omega⟩ (by simp; omega)
  unfold server_subscribable
  rcases h2 with ⟨rfl,h2⟩ | ⟨j,c,a,h2,rfl⟩
  · refine .inl ⟨?_,h2⟩
    rw [h1]; rfl
  · refine .inr ⟨j,c,a,h2,?_⟩
    rw [h1]; rfl
def HasC (db:List T_Attribute) (i:Nat):Prop:=∃k,i<k∧free db i k∧conf db k
def Inc (db:List T_Attribute):Prop:=∀(i:Nat) a b,db[i]? = some a→db[i+1]? = some b→a.Handle<b.Handle
theorem inc_lt {db:List T_Attribute} (hi:Inc db):∀(d i:Nat) a b,db[i]? = some a→db[i+d+1]? = some b→a.Handle<b.Handle
  | 0,i,a,b,h1,h2=>hi i a b h1 h2
  | d+1,i,a,b,h1,h2=>by
    have hl:=(List.getElem?_eq_some_iff.1 h2).1
    have hx:db[i+d+1]? = some db[i+d+1]:=List.getElem?_eq_getElem (by omega)
    have g1:=inc_lt hi d i a _ h1 hx
    have g2:=hi (i+d+1) _ b hx h2
    omega
theorem fnd_at {db:List T_Attribute} (hi:Inc db) {k:Nat} {a:T_Attribute} (h:db[k]? = some a):fnd db a.Handle=(k:Int):=by
  have hl:=(List.getElem?_eq_some_iff.1 h).1
  have:db.findIdx? (fun b=>b.Handle == a.Handle)=some k:=by
    rw [List.findIdx?_eq_some_iff_getElem]
    refine ⟨hl,?_,?_⟩
    · rw [(List.getElem?_eq_some_iff.1 h).2]; simp
    · intro j hj
      have hx:db[j]? = some db[j]:=List.getElem?_eq_getElem (by omega)
      have:=inc_lt hi (k - j - 1) j _ a hx (by rw [show j+(k - j - 1)+1=k from by omega]; exact h)
      simp
      omega
  unfold fnd
  rw [this]
theorem fnd_some {db:List T_Attribute} {h:Int} {k:Nat} (hk:fnd db h=(k:Int)):∃a,db[k]? = some a∧a.Handle=h:=by
  unfold fnd at hk
  cases he:db.findIdx? (fun b=>b.Handle == h) with
  | none=>rw [he] at hk; simp only at hk; omega
  | some q=>
    rw [he] at hk
    simp only at hk
    have:q=k:=by omega
    subst this
    obtain⟨h1,h2,_⟩:=List.findIdx?_eq_some_iff_getElem.1 he
    exact⟨db[q],List.getElem?_eq_getElem h1,by simpa using h2⟩
theorem chr_next {db:List T_Attribute} (hg:Good db) {c:Nat} {a:T_Attribute} (h:chr db c a):∃b,db[c+1]? = some b∧b.Handle=(prt a.Value).2.1∧resv b.f_Type=false:=by
  obtain⟨_,_,_,h4⟩:=hg.g c a h.1
  unfold wrg at h4
  rw [(char_not h.2).1,h.2] at h4
  by_cases h1:(((c:Int) == 0 && !false)||(decl a.f_Type&&(iand .i64 a.Perms 2 != 0)))=true
  · rw [if_pos h1] at h4; cases h4
  · rw [if_neg h1,if_neg (by decide),if_pos rfl] at h4
    unfold cw at h4
    cases hn:db[c+1]? with
    | none=>rw [hn] at h4; cases h4
    | some b=>
      rw [hn] at h4
      simp only [Bool.or_eq_false_iff,Bool.not_eq_false',Bool.and_eq_true,beq_iff_eq,bne_eq_false_iff_eq] at h4
      refine ⟨b,rfl,h4.2.1,?_⟩
      have:b.f_Type=(prt a.Value).2.2.1:=by
        cases hb:b.f_Type with
        | mk p q=>
          cases hp:(prt a.Value).2.2.1 with
          | mk p' q'=>
            have h5:=h4.2.2
            rw [hb,hp] at h5
            simp only at h5
            rw [h5.1,h5.2]
      rw [this]
      exact h4.1.2
theorem resv_parts {u:T_UUID} (h:resv u=false):isv u=false∧isN u 10243=false∧isN u 10498=false:=by
  unfold resv decl at h
  simp only [Bool.or_eq_false_iff] at h
  exact⟨h.1.1,h.1.2.2,h.2⟩
theorem hit_has {db:List T_Attribute} (hg:Good db) (hi:Inc db) {h:Int} {j c:Nat} {a:T_Attribute} (hh:hit db h j c a):fnd db h=((c+1:Nat):Int)∧HasC db (c+1):=by
  obtain⟨⟨d,hd,hd2⟩,h2,h3,h4⟩:=hh
  obtain⟨b,hb,hb2,hb3⟩:=chr_next hg h3
  obtain⟨g1,_,g3⟩:=cho_char db _ _ h2
  have hjl:=(List.getElem?_eq_some_iff.1 hd).1
  have n1:c≠j:=by
    intro e
    subst e
    rw [h3.1] at hd
    injection hd with hd
    rw [← hd,(char_not h3.2).2] at hd2
    cases hd2
  have n2:c+1≠j:=by
    intro e
    subst e
    rw [hb] at hd
    injection hd with hd
    rw [← hd,(resv_parts hb3).2.2] at hd2
    cases hd2
  refine ⟨?_,j,by omega,fun k e h5 h6=>g3 k e (by omega) (by omega),d,hd,hd2⟩
  have:=fnd_at hi hb
  rw [hb2,h4] at this
  exact this
theorem has_hit {db:List T_Attribute} (hg:Good db) {h:Int} {c:Nat} {a:T_Attribute} (h1:fnd db h=((c+1:Nat):Int)) (h2:chr db c a) (h3:HasC db (c+1)):∃j,hit db h j c a:=by
  obtain⟨k,hk,hf,d,hd,hd2⟩:=h3
  obtain⟨b,hb,hb2,hb3⟩:=chr_next hg h2
  obtain⟨e,he,he2⟩:=fnd_some h1
  rw [hb] at he
  injection he with he
  subst he
  have hkl:=(List.getElem?_eq_some_iff.1 hd).1
  refine ⟨k,⟨d,hd,hd2⟩,cho_is db c a h2 (k+1) (by omega) (by omega) ?_,h2,by rw [← hb2,he2]⟩
  intro j x h4 h5 h6
  by_cases e1:j=c+1
  · subst e1
    rw [hb] at h6
    injection h6 with h6
    subst h6
    exact⟨(resv_parts hb3).1,(resv_parts hb3).2.1⟩
  · by_cases e2:j=k
    · subst e2
      rw [hd] at h6
      injection h6 with h6
      subst h6
      exact conf_not hd2
    · exact hf j x (by omega) (by omega) h6
theorem risConfig (F:Nat) (a:T_Attribute):wirelessref45_isConfig F a=some (isN a.f_Type 10498):=by
  unfold wirelessref45_isConfig
  rw [rIs F _ _ (by decide) (by decide)]
  rfl
theorem rhasl (F:Nat) {db:List T_Attribute} (i:Nat) (hi:i<db.length) (hn:db.length≤9000000000000000) (hF:db.length+5<F):(iter (fun s=>wirelessref45_has_l1 F db s) F (((i+1:Nat):Int))=some (.inl ())∧¬ HasC db i)∨(iter (fun s=>wirelessref45_has_l1 F db s) F (((i+1:Nat):Int))=some (.inr true)∧HasC db i):=by
  obtain⟨o,h1,h2⟩:=iter_by (body:=fun s:Int=>wirelessref45_has_l1 F db s) (fun s=>∃k:Nat,s=(k:Int)∧i<k∧k≤db.length∧free db i k∧∀j,i<j→j<k→¬ conf db j)
    (fun o=>(o = .inl ()∧¬ HasC db i)∨(o = .inr true∧HasC db i)) (fun s=>db.length - s.toNat) (by
    rintro s ⟨k,rfl,hik,hk,hf,hno⟩
    show (∃s',wirelessref45_has_l1 F db (k:Int)=some (.next s')∧_)∨∃o,wirelessref45_has_l1 F db (k:Int)=some (.done o)∧_
    unfold wirelessref45_has_l1
    by_cases hin:k<db.length
    · have hx:db[k]? = some db[k]:=List.getElem?_eq_getElem hin
      generalize hq:db[k]=a at hx
      rw [if_pos (dt (show (k:Int)<len db by rw [len_nat]; omega)),idx_nat,hx]
      simp only [Option.bind_some]
      rw [rIsService,rIsChar,risConfig]
      simp only [Option.bind_some]
      have stop:(isv a.f_Type=true∨isN a.f_Type 10243=true)→¬ HasC db i:=by
        rintro hs ⟨q,g1,g2,g3⟩
        by_cases hqk:q<k
        · exact hno q g1 hqk g3
        · by_cases e:q=k
          · subst e
            obtain⟨d,hd,hd2⟩:=g3
            rw [hx] at hd
            injection hd with hd
            subst hd
            obtain⟨c1,c2⟩:=conf_not hd2
            rw [c1,c2] at hs
            simp at hs
          · obtain⟨c1,c2⟩:=g2 k a hik (by omega) hx
            rw [c1,c2] at hs
            simp at hs
      cases hs:isv a.f_Type with
      | true=>exact .inr ⟨_,rfl,.inl ⟨rfl,stop (.inl hs)⟩⟩
      | false=>
      cases hc:isN a.f_Type 10243 with
      | true=>exact .inr ⟨_,rfl,.inl ⟨rfl,stop (.inr hc)⟩⟩
      | false=>
      cases hg:isN a.f_Type 10498 with
      | true=>exact .inr ⟨_,rfl,.inr ⟨rfl,k,hik,hf,a,hx,hg⟩⟩
      | false=>
        refine .inl ⟨_,rfl,⟨k+1,w64_nat k (by omega),by omega,by omega,?_,?_⟩,by rw [w64_nat k (by omega)]; omega⟩
        · intro j b h3 h4 h5
          by_cases hj:j<k
          · exact hf j b h3 hj h5
          · have:j=k:=by omega
            subst this
            rw [hx] at h5
            injection h5 with h5
            subst h5
            exact⟨hs,hc⟩
        · intro j h3 h4
          by_cases hj:j<k
          · exact hno j h3 hj
          · have:j=k:=by omega
            subst this
            rintro⟨b,hb,hb2⟩
            rw [hx] at hb
            injection hb with hb
            rw [← hb,hg] at hb2
            cases hb2
    · rw [if_neg (df (show ¬ (k:Int)<len db by rw [len_nat]; omega))]
      refine .inr ⟨_,rfl,.inl ⟨rfl,?_⟩⟩
      rintro⟨q,g1,g2,g3⟩
      obtain⟨d,hd,_⟩:=id g3
      have:=(List.getElem?_eq_some_iff.1 hd).1
      exact hno q g1 (by omega) g3) F (((i+1:Nat):Int)) ⟨i+1,rfl,by omega,by omega,by intro j b h3 h4; omega,by intro j h3 h4; omega⟩ (by omega)
  rcases h2 with ⟨rfl,h2⟩ | ⟨rfl,h2⟩
  · exact .inl ⟨h1,h2⟩
  · exact .inr ⟨h1,h2⟩
theorem fnd_cases (db:List T_Attribute) (h:Int):fnd db h = -1∨∃k:Nat,fnd db h=(k:Int)∧k<db.length:=by
  unfold fnd
  cases he:db.findIdx? (fun a=>a.Handle == h) with
  | none=>exact .inl rfl
  | some k=>exact .inr ⟨k,rfl,(List.findIdx?_eq_some_iff_getElem.1 he).1⟩
theorem rhas (F:Nat) {db:List T_Attribute} (h:Int) (hn:db.length≤9000000000000000) (hF:db.length+5<F):∃b,wirelessref45_has F db h=some b∧(b=true↔∃c a,fnd db h=((c+1:Nat):Int)∧chr db c a∧HasC db (c+1)):=by
  unfold wirelessref45_has
  rw [rfind F db h hn (by omega),Option.bind_some]
  have bad:fnd db h<1→¬ ∃c a,fnd db h=((c+1:Nat):Int)∧chr db c a∧HasC db (c+1):=by
    rintro h1 ⟨c,a,h2,_⟩
    omega
  by_cases h1:fnd db h<1
  · rw [if_pos (dt h1),Option.bind_some,if_pos rfl]
    exact⟨_,rfl,⟨fun h=>(Bool.false_ne_true h).elim,fun h=>absurd h (bad h1)⟩⟩
  · rw [if_neg (df h1)]
    rcases fnd_cases db h with h2 | ⟨k,h2,hk⟩
    · omega
    · match k,h2,hk with
      | 0,h2,_=>omega
      | c+1,h2,hk=>
        rw [h2]
        have hx:db[c]? = some db[c]:=List.getElem?_eq_getElem (by omega)
        generalize hq:db[c]=a at hx
        rw [w64_id (by omega) (by omega),show ((c+1:Nat):Int) - 1=(c:Int) from by omega,idx_nat,hx,Option.bind_some,rIsChar,Option.bind_some,Option.bind_some]
        cases hc:isN a.f_Type 10243 with
        | false=>
          rw [if_pos (show (!false)=true from rfl)]
          refine ⟨_,rfl,⟨(fun h=>(Bool.false_ne_true h).elim),?_⟩⟩
          rintro⟨d,b,e1,e2,_⟩
          have:d=c:=by omega
          subst this
          rw [e2.1] at hx
          injection hx with hx
          rw [← hx,e2.2] at hc
          cases hc
        | true=>
          rw [if_neg (by decide),w64_id (by omega) (by omega),show (((c+1:Nat):Int)+1)=((c+1+1:Nat):Int) from by omega]
          rcases rhasl F (c+1) hk hn hF with ⟨g1,g2⟩ | ⟨g1,g2⟩
          · rw [g1]
            refine ⟨_,rfl,⟨(fun h=>(Bool.false_ne_true h).elim),?_⟩⟩
            rintro⟨d,b,e1,e2,e3⟩
            have:d=c:=by omega
            subst this
            exact absurd e3 g2
          · rw [g1]
            exact⟨_,rfl,⟨fun _=>⟨c,a,rfl,⟨hx,hc⟩,g2⟩,fun _=>rfl⟩⟩
end V
end Go.Proofs.YtoahakdkgefgiaaGreat

namespace Go.Proofs.YtoahakdkgefgiaaGreat
namespace V
theorem rbits (F:Nat) {db:List T_Attribute} (hdb:∀a∈db,AOk a) (h:Int) {c:Nat} {a:T_Attribute} (h1:fnd db h=((c+1:Nat):Int)) (h2:chr db c a) (h3:HasC db (c+1)) (hn:db.length≤9000000000000000) (hF:db.length+25<F):wirelessref45_Bits F db h=some (bt (prt a.Value).1):=by
  have hc1:c+1<db.length:=by
    obtain⟨b,hb,_⟩:=fnd_some h1
    exact (List.getElem?_eq_some_iff.1 hb).1
  have ha:=hdb a (List.mem_of_getElem? h2.1)
  obtain⟨o,g1,g2⟩:=iter_by (body:=fun s:Bool×Int=>wirelessref45_Bits_l1 F db s.1 s.2) (fun s=>∃k:Nat,s.2=(k:Int)∧c+1<k∧k≤db.length∧((∃q,c+1<q∧free db (c+1) q∧conf db q∧k≤q)∨s.1=true))
    (fun o=>o=true) (fun s=>db.length - s.2.toNat) (by
    rintro⟨z,x⟩ ⟨k,hx,hck,hk,hz⟩
    simp only at hx hz
    subst hx
    show (∃s',wirelessref45_Bits_l1 F db z (k:Int)=some (.next s')∧_)∨∃o,wirelessref45_Bits_l1 F db z (k:Int)=some (.done o)∧_
    unfold wirelessref45_Bits_l1
    by_cases hin:k<db.length
    · have hx:db[k]? = some db[k]:=List.getElem?_eq_getElem hin
      generalize hq:db[k]=b at hx
      rw [if_pos (dt (show (k:Int)<len db by rw [len_nat]; omega)),idx_nat,hx]
      simp only [Option.bind_some]
      rw [rIsService,rIsChar,risConfig]
      simp only [Option.bind_some]
      have hz2:((if z=true then some true else some (isN b.f_Type 10498)):Option Bool)=some (z||isN b.f_Type 10498):=by cases z <;> rfl
      rw [hz2]
      have stop:(isv b.f_Type=true∨isN b.f_Type 10243=true)→z=true:=by
        intro hs
        rcases hz with ⟨q,q1,q2,q3,q4⟩ | hz
        · exfalso
          by_cases e:q=k
          · subst e
            obtain⟨d,hd,hd2⟩:=q3
            rw [hx] at hd
            injection hd with hd
            subst hd
            obtain⟨c1,c2⟩:=conf_not hd2
            rw [c1,c2] at hs
            simp at hs
          · obtain⟨c1,c2⟩:=q2 k b hck (by omega) hx
            rw [c1,c2] at hs
            simp at hs
        · exact hz
      cases hs:isv b.f_Type with
      | true=>exact .inr ⟨z,rfl,stop (.inl hs)⟩
      | false=>
      cases hc:isN b.f_Type 10243 with
      | true=>exact .inr ⟨z,rfl,stop (.inr hc)⟩
      | false=>
        refine .inl ⟨(z||isN b.f_Type 10498,w64 ((k:Int)+1)),rfl,⟨k+1,w64_nat k (by omega),by omega,by omega,?_⟩,by simp only; rw [w64_nat k (by omega)]; omega⟩
        rcases hz with ⟨q,q1,q2,q3,q4⟩ | hz
        · by_cases e:q=k
          · subst e
            obtain⟨d,hd,hd2⟩:=q3
            rw [hx] at hd
            injection hd with hd
            subst hd
            right
            simp only
            rw [hd2,Bool.or_true]
          · exact .inl ⟨q,q1,q2,q3,by omega⟩
        · right
          simp only
          rw [hz]; rfl
    · rw [if_neg (df (show ¬ (k:Int)<len db by rw [len_nat]; omega))]
      refine .inr ⟨z,rfl,?_⟩
      rcases hz with ⟨q,q1,q2,⟨d,hd,_⟩,q4⟩ | hz
      · have:=(List.getElem?_eq_some_iff.1 hd).1
        omega
      · exact hz) F (false,((c+2:Nat):Int)) ⟨c+2,rfl,by omega,by omega,.inl (by
        obtain⟨q,q1,q2,q3⟩:=h3
        exact⟨q,q1,q2,q3,by omega⟩)⟩ (by simp only; omega)
  subst g2
  unfold wirelessref45_Bits
  rw [rfind F db h hn (by omega),Option.bind_some,h1,if_neg (df (by omega)),w64_id (by omega) (by omega),show ((c+1:Nat):Int) - 1=(c:Int) from by omega,idx_nat,h2.1,Option.bind_some,rIsChar,Option.bind_some,Option.bind_some,h2.2,if_neg (by decide),w64_id (by omega) (by omega),show (((c+1:Nat):Int)+1)=((c+2:Nat):Int) from by omega,g1,Option.bind_some]
  unfold wirelessref45_Bits_j1
  rw [w64_id (by omega) (by omega),show ((c+1:Nat):Int) - 1=(c:Int) from by omega,idx_nat,h2.1,Option.bind_some,rparts F ha.b (by omega),Option.bind_some]
  unfold wirelessref45_Bits_j2 wirelessref45_Bits_j3 bt
  by_cases e1:(iand .i64 (prt a.Value).1 16 != 0)=true
  · rw [if_pos e1,if_pos e1]
    by_cases e2:(iand .i64 (prt a.Value).1 32 != 0)=true
    · rw [if_pos e2,if_pos e2]; rfl
    · rw [if_neg e2,if_neg e2]; rfl
  · rw [if_neg e1,if_neg e1]
    by_cases e2:(iand .i64 (prt a.Value).1 32 != 0)=true
    · rw [if_pos e2,if_pos e2]; rfl
    · rw [if_neg e2,if_neg e2]; rfl
theorem sub_same (F:Nat) {db:List T_Attribute} (hdb:∀a∈db,AOk a) (hg:Good db) (hi:Inc db) (h:Int) (hn:db.length≤9000000000000000) (hF:db.length+25<F):(server_subscribable F db h=some (0,false)∧wirelessref45_has F db h=some false)∨∃p,server_subscribable F db h=some (bt p,true)∧wirelessref45_has F db h=some true∧wirelessref45_Bits F db h=some (bt p):=by
  obtain⟨b,h1,h2⟩:=rhas F (db:=db) h hn (by omega)
  rcases usub F hdb hg h hn (by omega) with ⟨g1,g2⟩ | ⟨j,c,a,g1,g2⟩
  · refine .inl ⟨g1,?_⟩
    cases b with
    | false=>exact h1
    | true=>
      obtain⟨c,a,e1,e2,e3⟩:=h2.1 rfl
      obtain⟨j,hj⟩:=has_hit hg e1 e2 e3
      exact absurd hj (g2 j c a)
  · obtain⟨e1,e2⟩:=hit_has hg hi g1
    have hb:b=true:=h2.2 ⟨c,a,e1,g1.2.2.1,e2⟩
    subst hb
    exact .inr ⟨(prt a.Value).1,g2,h1,rbits F hdb h e1 g1.2.2.1 e2 hn hF⟩
theorem w64_bits (b:BitVec 64):w64 (b.toNat:Int)=b.toInt:=by
  rw [BitVec.toInt_eq_toNat_cond]
  have:=b.isLt
  unfold w64
  split <;> omega
theorem bits_w64 (x:Int) (h0 : -9223372036854775808≤x) (h1:x<9223372036854775808):(BitVec.ofInt 64 x).toInt=x:=by
  rw [← w64_bits,BitVec.toNat_ofInt]
  unfold w64
  omega
theorem and_not_zero (a b:BitVec 64):a &&& ~~~b=0#64↔a &&& b=a:=by
  constructor
  · intro h
    apply BitVec.eq_of_getLsbD_eq
    intro i hi
    have:=congrArg (fun v=>v.getLsbD i) h
    simp [hi] at this ⊢
    exact this
  · intro h
    apply BitVec.eq_of_getLsbD_eq
    intro i hi
    have:=congrArg (fun v=>v.getLsbD i) h
    simp [hi] at this ⊢
    exact this
theorem mask_same {x y:Int} (h0 : -9223372036854775808≤x) (h1:x<9223372036854775808):(iandnot .i64 x y != 0)=(iand .i64 x y != x):=by
  have e1:iandnot .i64 x y=(BitVec.ofInt 64 x &&& ~~~ BitVec.ofInt 64 y).toInt:=by
    unfold iandnot
    rw [wrap_i64,← w64_bits]; rfl
  have e2:iand .i64 x y=(BitVec.ofInt 64 x &&& BitVec.ofInt 64 y).toInt:=by
    unfold iand
    rw [wrap_i64,← w64_bits]; rfl
  have key:=and_not_zero (BitVec.ofInt 64 x) (BitVec.ofInt 64 y)
  have e3:iandnot .i64 x y=0↔iand .i64 x y=x:=by
    rw [e1,e2]
    constructor
    · intro h
      have h':BitVec.ofInt 64 x &&& ~~~ BitVec.ofInt 64 y=0#64:=BitVec.eq_of_toInt_eq (by rw [h]; rfl)
      rw [key.1 h',bits_w64 x h0 h1]
    · intro h
      have h':BitVec.ofInt 64 x &&& BitVec.ofInt 64 y=BitVec.ofInt 64 x:=BitVec.eq_of_toInt_eq (by rw [h,bits_w64 x h0 h1])
      rw [key.2 h']; rfl
  by_cases h:iandnot .i64 x y=0
  · rw [h,e3.1 h]; simp
  · rw [bne_iff_ne.2 h,bne_iff_ne.2 (fun h2=>h (e3.2 h2))]
structure SbOk (s:T_Subscription):Prop where
  h0:0≤s.Handle
  h1:s.Handle<65536
  b0 : -9223372036854775808≤s.Bits
  b1:s.Bits<9223372036854775808
theorem app_k {α:Type} {k:Nat} {l m:List α} (hk:k≤1000) (h:l.length+m.length≤100000000000):app k l m=some (l++m):=by
  unfold app
  have:(l.length+m.length) * k≤100000000000 * 1000:=Nat.mul_le_mul h hk
  rw [if_pos ⟨by omega,by omega⟩]
theorem uattrs (F:Nat) (db:List T_Attribute) (hv:∀a∈db,a.Value.length≤140737488355328) (hn:db.length≤10000000) (hF:db.length+5<F):server_attributes F db=some db:=by
  unfold server_attributes
  have:=iter_count (body:=fun s:List T_Attribute×Int=>server_attributes_l1 F db s.1 s.2) (fun i=>(db.take i,(i:Int))) db.length db (by
    intro i hi
    have hx:db[i]? = some db[i]:=List.getElem?_eq_getElem hi
    have hm:=hv _ (List.getElem_mem hi)
    have hq:({ db[i] with Value:=db[i].Value }:T_Attribute)=db[i]:=by cases db[i]; rfl
    show server_attributes_l1 F db (db.take i) (i:Int)=_
    unfold server_attributes_l1
    rw [if_pos (dt (by rw [len_nat]; omega)),idx_nat,hx,Option.bind_some,join_one F _ (by omega) hm,Option.bind_some,app_k (by decide) (by simp; omega),Option.bind_some,w64_nat i (by omega),List.take_add_one,hx]
    rfl) (by
    show server_attributes_l1 F db (db.take db.length) (db.length:Int)=_
    unfold server_attributes_l1
    rw [if_neg (df (by rw [len_nat]; omega)),List.take_length]) F 0 (by omega) (by omega)
  rw [show (([],0):List T_Attribute×Int)=(db.take 0,((0:Nat):Int)) from rfl,this]
  rfl
theorem sameSubs (F:Nat) (l:List T_Subscription) (hn:l.length≤9000000000000000) (hF:l.length<F):wirelessref45_SameSubs F l l=some true:=by
  unfold wirelessref45_SameSubs
  rw [if_neg (by simp)]
  have:=iter_count (body:=fun s:Int=>wirelessref45_SameSubs_l1 F l l s) (fun i=>(i:Int)) l.length (.inl ()) (by
    intro i hi
    have hx:l[i]? = some l[i]:=List.getElem?_eq_getElem hi
    show wirelessref45_SameSubs_l1 F l l (i:Int)=_
    unfold wirelessref45_SameSubs_l1
    rw [if_pos (dt (by rw [len_nat]; omega)),idx_nat,hx]
    simp only [Option.bind_some]
    unfold wirelessref45_SameSubs_j2
    rw [if_neg (by simp),w64_nat i (by omega)]) (by
    show wirelessref45_SameSubs_l1 F l l _=_
    unfold wirelessref45_SameSubs_l1
    rw [if_neg (df (by rw [len_nat]; omega))]) F 0 (by omega) (by omega)
  rw [show ((0:Nat):Int)=0 from rfl] at this
  rw [this]
  rfl
theorem sameServer (F:Nat) (s:T_Server) (hq:s.Queue=[]) (ho:s.Out=[]) (h1:s.DB.length≤9000000000000000) (h2:s.Subs.length≤9000000000000000) (hF1:s.DB.length+5<F) (hF2:s.Subs.length+5<F):wirelessref45_SameServer F s s=some true:=by
  have e1:iter (fun t:Int=>wirelessref45_SameServer_l1 F s s t) F 0=some (.inl ()):=by
    match F,hF1 with
    | F+1,_=>
    refine iter_stop ?_
    unfold wirelessref45_SameServer_l1
    rw [if_neg (df (by rw [hq]; decide))]
  have e2:wirelessref42_SamePDUs F s.Out s.Out=some true:=by
    unfold wirelessref42_SamePDUs
    rw [if_neg (by simp)]
    match F,hF1 with
    | F+1,_=>
    rw [iter_stop (o:=.inl ()) (by
      unfold wirelessref42_SamePDUs_l1
      rw [if_neg (df (by rw [ho]; decide))])]
    rfl
  unfold wirelessref45_SameServer
  rw [if_neg (by simp),e1,Option.bind_some]
  show wirelessref45_SameServer_j1 F s s=_
  unfold wirelessref45_SameServer_j1
  rw [sameDB F s.DB h1 (by omega),Option.bind_some,if_pos rfl,sameSubs F s.Subs h2 (by omega),Option.bind_some,Option.bind_some,if_pos rfl,e2]
  rfl
def SZ:T_Server:=T_Server.mk [] 0 0 0 [] 0 false [] [] false 0
def mkS (db:List T_Attribute) (mx lv:Int) (rb:Bool) (aw:Int) (subs:List T_Subscription):T_Server:=T_Server.mk db 23 mx lv [] aw rb subs [] false 0
theorem uclone (F:Nat) (l:List T_Subscription) (hn:l.length≤10000000):slices_Clone_api_Subscription_api_Subscription F l=some l:=by
  unfold slices_Clone_api_Subscription_api_Subscription
  rw [app_k (by decide) (by simp; omega),Option.bind_some,List.nil_append]
theorem new_same (F:Nat) {db:List T_Attribute} (hdb:∀a∈db,AOk a) (mx lv:Int) (rb:Bool) (aw:Int) {subs:List T_Subscription} (hs:∀s∈subs,SbOk s) (hn:db.length≤10000000) (hsn:subs.length≤10000000) (hF:db.length+25<F) (hF2:subs.length+25<F) :
    ∃x,server_New F db mx lv rb aw subs=some x∧wirelessref45_New F db mx lv rb aw subs=some x∧((x.2≠0∧x.1=SZ)∨(x=(mkS db mx lv rb aw subs,0)∧wirelessref43_Check F db=some 0)):=by
  obtain⟨e,h1,h2⟩:=check_same F db hdb (by omega) (by omega)
  unfold server_New wirelessref45_New
  rw [h1,h2,Option.bind_some,Option.bind_some]
  by_cases he:(e != 0)=true
  · rw [if_pos he,if_pos he]
    exact⟨_,rfl,rfl,.inl ⟨bne_iff_ne.1 he,rfl⟩⟩
  · rw [if_neg he,if_neg he]
    have he0:e=0:=by simpa using he
    subst he0
    obtain⟨hi,_,_⟩:=rcheck_good F db hdb (by omega) (by omega) h2
    have hg:=rcheck_all F db hdb (by omega) (by omega) h2
    split
    · exact⟨_,rfl,rfl,.inl ⟨by decide,rfl⟩⟩
    · obtain⟨o1,o2,g1,g2,g3⟩:=iter_sim (b1:=fun s:Int×Int=>server_New_l1 F db subs s.1 s.2) (b2:=fun s:Int=>wirelessref45_New_l1 F db subs s)
        (fun s t=>∃i:Nat,i≤subs.length∧s.2=(i:Int)∧t=(i:Int)∧(∀b,0<i→subs[i - 1]? = some b→b.Handle=s.1)) (fun a b=>a=b∧(a = .inl ()∨∃x,a = .inr x∧x.2≠0∧x.1=SZ)) (fun s=>subs.length - s.2.toNat) (by
        rintro⟨last,x⟩ t ⟨i,hi1,hx,ht,hl⟩
        simp only at hx hl
        subst hx
        subst ht
        show (∃t1 t2,server_New_l1 F db subs last (i:Int)=some (.next t1)∧wirelessref45_New_l1 F db subs (i:Int)=some (.next t2)∧_)∨∃o1 o2,server_New_l1 F db subs last (i:Int)=some (.done o1)∧wirelessref45_New_l1 F db subs (i:Int)=some (.done o2)∧_
        unfold server_New_l1 wirelessref45_New_l1
        by_cases hin:i<subs.length
        · have hx:subs[i]? = some subs[i]:=List.getElem?_eq_getElem hin
          have hok:=hs _ (List.getElem_mem hin)
          generalize hq:subs[i]=s at hx hok
          rw [if_pos (dt (show (i:Int)<len subs by rw [len_nat]; omega)),if_pos (dt (show (i:Int)<len subs by rw [len_nat]; omega)),idx_nat,hx]
          simp only [Option.bind_some]
          have hord:(if decide ((i:Int) > 0)=true then (idx subs (w64 ((i:Int) - 1))).bind fun x_903=>wirelessref45_New_j2 F db subs (i:Int) (decide (s.Handle≤x_903.Handle)) else wirelessref45_New_j2 F db subs (i:Int) false)=wirelessref45_New_j2 F db subs (i:Int) (decide ((i:Int) > 0)&&decide (s.Handle≤last)):=by
            by_cases h0:(i:Int) > 0
            · have hp:subs[i - 1]? = some subs[i - 1]:=List.getElem?_eq_getElem (by omega)
              rw [if_pos (dt h0),w64_id (by omega) (by omega),show (i:Int) - 1=((i - 1:Nat):Int) from by omega,idx_nat,hp,Option.bind_some,hl _ (by omega) hp,dt h0,Bool.true_and]
            · rw [if_neg (df h0),(Bool.not_eq_true _).mp (df h0),Bool.false_and]
          rw [hord]
          unfold wirelessref45_New_j2
          rw [idx_nat,hx]
          simp only [Option.bind_some]
          rcases sub_same F hdb hg hi s.Handle (by omega) hF with ⟨k1,k2⟩ | ⟨p,k1,k2,k3⟩
          · rw [k1,k2]
            simp only [Option.bind_some]
            by_cases ho:(decide ((i:Int) > 0)&&decide (s.Handle≤last))=true
            · rw [if_pos ho,if_pos ho]
              exact .inr ⟨_,_,rfl,rfl,rfl,.inr ⟨_,rfl,by decide,rfl⟩⟩
            · rw [if_neg ho,if_neg ho]
              exact .inr ⟨_,_,rfl,rfl,rfl,.inr ⟨_,rfl,by decide,rfl⟩⟩
          · rw [k1,k2]
            simp only [Option.bind_some]
            by_cases ho:(decide ((i:Int) > 0)&&decide (s.Handle≤last))=true
            · rw [if_pos ho,if_pos ho]
              exact .inr ⟨_,_,rfl,rfl,rfl,.inr ⟨_,rfl,by decide,rfl⟩⟩
            · rw [if_neg ho,if_neg ho,if_neg (show ¬ (!true)=true from by decide),if_neg (show ¬ (!true)=true from by decide),mask_same hok.b0 hok.b1]
              unfold wirelessref45_New_j3
              by_cases hb:(s.Bits == 0)=true
              · rw [if_pos hb,hb,Bool.true_or,if_pos rfl,if_pos rfl]
                exact .inr ⟨_,_,rfl,rfl,rfl,.inr ⟨_,rfl,by decide,rfl⟩⟩
              · rw [if_neg hb,(Bool.not_eq_true _).mp hb,Bool.false_or,k3,Option.bind_some]
                by_cases hm:(iand .i64 s.Bits (bt p) != s.Bits)=true
                · rw [if_pos hm,if_pos hm]
                  exact .inr ⟨_,_,rfl,rfl,rfl,.inr ⟨_,rfl,by decide,rfl⟩⟩
                · rw [if_neg hm,if_neg hm]
                  refine .inl ⟨_,_,rfl,rfl,⟨i+1,by omega,w64_nat i (by omega),w64_nat i (by omega),?_⟩,?_⟩
                  · intro b _ hb2
                    rw [show i+1 - 1=i from by omega,hx] at hb2
                    injection hb2 with hb2
                    rw [← hb2]
                  · simp only; rw [w64_nat i (by omega)]; omega
        · rw [if_neg (df (show ¬ (i:Int)<len subs by rw [len_nat]; omega)),if_neg (df (show ¬ (i:Int)<len subs by rw [len_nat]; omega))]
          exact .inr ⟨_,_,rfl,rfl,rfl,.inl rfl⟩) F (0,0) 0 ⟨0,by omega,rfl,rfl,by intro b hb; omega⟩ (by simp only; omega)
      rw [g1,g2]
      obtain⟨g3,g4⟩:=g3
      subst g3
      rcases g4 with rfl | ⟨x,rfl,hx⟩
      · simp only [Option.bind_some]
        unfold server_New_j1 wirelessref45_New_j1
        rw [uattrs F db (fun a ha=>(hdb a ha).l) hn (by omega),uclone F subs hsn,app_k (by decide) (by simp; omega),app_k (by decide) (by simp; omega)]
        exact⟨_,rfl,rfl,.inr ⟨rfl,by first | exact h2 | trivial⟩⟩
      · exact⟨_,rfl,rfl,.inl hx⟩
theorem uof0 (F:Nat) (s:T_Server) (hv:∀a∈s.DB,a.Value.length≤140737488355328) (hn:s.DB.length≤10000000) (hF:s.DB.length+5<F) (hsn:s.Subs.length≤10000000) (hq:s.Queue=[]) (ho:s.Out=[]):server_of F s=some (T_server_side.mk s []):=by
  unfold server_of
  rw [uattrs F s.DB hv hn hF,Option.bind_some,uclone F s.Subs hsn,Option.bind_some,hq,ho]
  have e1:slices_Clone_api_Prepared_api_Prepared F []=some []:=rfl
  have e2:slices_Clone_api_AttPDU_api_AttPDU F []=some []:=rfl
  rw [e1,e2,Option.bind_some,Option.bind_some]
  match F,hF with
  | F+1,_=>
  unfold server_of_j1
  rw [iter_stop (o:=[]) (by
    unfold server_of_l2
    rw [if_neg (df (by show ¬ (0:Int)<len (([]:List T_Prepared)); decide))])]
  rw [Option.bind_some]
  unfold server_of_j2
  rw [iter_stop (o:=[]) (by
    unfold server_of_l1
    rw [if_neg (df (by show ¬ (0:Int)<len (([]:List T_AttPDU)); decide))])]
  rw [Option.bind_some]
  unfold server_of_j3
  cases s
  simp only at hq ho
  subst hq
  subst ho
  rfl
theorem level_same (l:Int):imax 0 (imin l 2)=imin (imax l 0) 2:=by
  unfold imax imin
  repeat' split
  all_goals omega
theorem example_ok:wirelesslaw45_exampleHolds FF=some true:=by kernel_rfl
theorem light_ok (F:Nat) (db:List T_Attribute) (hn:db.length≤9000000000000000) (hF:100<F):∃b,wirelesslaw45_light F db=some b∧(b=true→db.length≤80∧∀a∈db,a.Value.length≤4096):=by
  unfold wirelesslaw45_light
  obtain⟨o,h1,h2⟩:=iter_by (body:=fun s:Int×Int=>wirelesslaw45_light_l1 F db s.1 s.2) (fun s=>∃i:Nat,s.2=(i:Int)∧i≤db.length∧i≤80∧∀a∈db.take i,a.Value.length≤4096)
    (fun o=>(∃n,o = .inl n∧∀a∈db.take 80,a.Value.length≤4096)∨o = .inr false) (fun s=>80 - s.2.toNat) (by
    rintro⟨n,x⟩ ⟨i,hx,hi,hi2,hall⟩
    simp only at hx
    subst hx
    show (∃s',wirelesslaw45_light_l1 F db n (i:Int)=some (.next s')∧_)∨∃o,wirelesslaw45_light_l1 F db n (i:Int)=some (.done o)∧_
    unfold wirelesslaw45_light_l1
    by_cases hin:i<db.length∧i<80
    · have hxa:db[i]? = some db[i]:=List.getElem?_eq_getElem hin.1
      generalize hq:db[i]=a at hxa
      rw [if_pos (by rw [dt (show (i:Int)<len db by rw [len_nat]; omega),dt (show (i:Int)<80 by omega)]; rfl),idx_nat,hxa]
      simp only [Option.bind_some]
      by_cases hv:len a.Value > 4096
      · rw [if_pos (dt hv)]
        exact .inr ⟨_,rfl,.inr rfl⟩
      · rw [if_neg (df hv)]
        rw [len_nat] at hv
        refine .inl ⟨_,rfl,⟨i+1,?_,by omega,by omega,?_⟩,?_⟩
        · simp only; exact w64_nat i (by omega)
        · intro c hc
          rw [List.take_add_one,hxa] at hc
          rcases List.mem_append.1 hc with hc | hc
          · exact hall c hc
          · simp at hc; subst hc; omega
        · simp only; rw [w64_nat i (by omega)]; omega
    · rw [if_neg (by
        rw [Bool.and_eq_true]
        rintro⟨h1,h2⟩
        have h1:=of_decide_eq_true h1
        have h2:=of_decide_eq_true h2
        rw [len_nat] at h1
        omega)]
      refine .inr ⟨_,rfl,.inl ⟨_,rfl,fun a ha=>hall a ?_⟩⟩
      have e:db.take 80=db.take i:=by
        by_cases h:i<db.length
        · rw [show i=80 from by omega]
        · rw [List.take_of_length_le (by omega),List.take_of_length_le (by omega)]
      rwa [e] at ha) F (0,0) ⟨0,rfl,by omega,by omega,by simp⟩ (by simp only; omega)
  rw [h1,Option.bind_some]
  rcases h2 with ⟨n,rfl,h3⟩ | rfl
  · refine ⟨_,rfl,fun hb=>?_⟩
    simp only [Bool.and_eq_true] at hb
    have h4:=of_decide_eq_true hb.1
    rw [len_nat] at h4
    refine ⟨by omega,fun a ha=>h3 a ?_⟩
    rwa [List.take_of_length_le (by omega)]
  · exact⟨false,rfl,fun h=>by cases h⟩
end V
end Go.Proofs.YtoahakdkgefgiaaGreat

namespace Go.Proofs.YtoahakdkgefgiaaGreat
namespace V
theorem news_law (db:List T_Attribute) (nb:Int×Int×Int) (rb:Bool) (subs:List T_Subscription) (lv:Int) (hdb:∀a∈db,AOk a) (hn:db.length≤140737488355328) (hs:∀s∈subs,SbOk s):wirelesslaw45_ServerNews FF db nb rb subs lv=some true:=by
  obtain⟨b,h1,h2⟩:=light_ok FF db (by omega) (by decide)
  unfold wirelesslaw45_ServerNews
  rw [h1,Option.bind_some]
  by_cases hq:(!b||decide (len subs > 100))=true
  · rw [if_pos hq,example_ok]; rfl
  · rw [if_neg hq]
    simp only [Bool.or_eq_true,Bool.not_eq_true',decide_eq_true_eq,not_or,Bool.not_eq_false] at hq
    obtain⟨h3,h4⟩:=h2 hq.1
    have h5:=hq.2
    rw [len_nat] at h5
    have hF:∀n,n≤1000→n+25<FF:=by intro n hn; unfold FF; omega
    obtain⟨x,g1,g2,g3⟩:=new_same FF hdb nb.1 nb.2.1 rb nb.2.2 hs (by omega) (by omega) (hF _ (by omega)) (hF _ (by omega))
    rw [g1,g2]
    simp only [Option.bind_some]
    rw [if_pos (by simp)]
    rcases g3 with ⟨k1,k2⟩ | ⟨k1,_⟩
    · rw [k2,sameServer FF SZ rfl rfl (by decide) (by decide) (by decide) (by decide),Option.bind_some,if_pos rfl,if_pos (bne_iff_ne.2 k1),example_ok]
      rfl
    · have h6:=hF db.length (by omega)
      have h7:=hF subs.length (by omega)
      subst k1
      rw [sameServer FF (mkS db nb.1 nb.2.1 rb nb.2.2 subs) rfl rfl (show db.length≤_ by omega) (show subs.length≤_ by omega) (show db.length+5<_ by omega) (show subs.length+5<_ by omega),Option.bind_some,if_pos rfl,if_neg (show ¬ ((0:Int) != 0)=true by decide)]
      unfold server_Secure wirelessref45_Secure
      rw [uof0 FF (mkS db nb.1 nb.2.1 rb nb.2.2 subs) (fun a ha=>(hdb a ha).l) (show db.length≤_ by omega) (show db.length+5<_ by omega) (show subs.length≤_ by omega) rfl rfl]
      simp only [Option.bind_some]
      rw [level_same,sameServer FF { mkS db nb.1 nb.2.1 rb nb.2.2 subs with Level:=imin (imax lv 0) 2 } rfl rfl (show db.length≤_ by omega) (show subs.length≤_ by omega) (show db.length+5<_ by omega) (show subs.length+5<_ by omega),Option.bind_some,if_pos rfl,example_ok]
      rfl
end V
end Go.Proofs.YtoahakdkgefgiaaGreat
