/- Numbers and bytes of chapter 43: Put and Num of the referenc -/
import Derived.Test.YtoahakdkgefgiaaGreatLoop
import Derived.Test.YtoahakdkgefgiaaGreatFn
import Derived.KernelRfl
namespace Go.Proofs.YtoahakdkgefgiaaGreat
namespace V
def FF:Nat:=1125899906842624
def Byte (x:Int):Prop:=0≤x∧x<256
def leb:Nat→Int→List Int
  | 0,_=>[]
  | k+1,n=>n % 256::leb k (n / 256)
def num:List Int→Int
  | []=>0
  | b::r=>b+256 * num r
theorem leb_length:∀k n,(leb k n).length=k
  | 0,_=>rfl
  | k+1,n=>by simp [leb,leb_length k]
theorem leb_byte:∀k n,∀x∈leb k n,Byte x
  | 0,_,x,h=>by cases h
  | k+1,n,x,h=>by
    rcases List.mem_cons.1 h with rfl | h
    · exact⟨Int.emod_nonneg _ (by decide),Int.emod_lt_of_pos _ (by decide)⟩
    · exact leb_byte k _ x h
theorem pow_succ256 (k:Nat):(256:Int) ^ (k+1)=256 * 256 ^ k:=by rw [Int.pow_succ,Int.mul_comm]
theorem pow_pos256 (k:Nat):(0:Int)<256 ^ k:=Int.pow_pos (by decide)
theorem leb_snoc:∀(k:Nat) (n:Int),leb (k+1) n=leb k n++[n / 256 ^ k % 256]
  | 0,n=>by simp [leb]
  | k+1,n=>by
    have:=leb_snoc k (n / 256)
    rw [leb,this,leb,List.cons_append,pow_succ256,Int.ediv_ediv_of_nonneg (by decide:(0:Int)≤256)]
theorem num_nonneg:∀{l:List Int},(∀x∈l,Byte x)→0≤num l
  | [],_=>by simp [num]
  | b::r,h=>by
    have h1:=(h b (by simp)).1
    have h2:=num_nonneg (l:=r) fun x hx=>h x (by simp [hx])
    simp only [num]; omega
theorem num_lt:∀{l:List Int},(∀x∈l,Byte x)→num l<256 ^ l.length
  | [],_=>by simp [num]
  | b::r,h=>by
    have h1:=(h b (by simp)).2
    have h2:=num_lt (l:=r) fun x hx=>h x (by simp [hx])
    simp only [num,List.length_cons,pow_succ256]; omega
theorem num_append:∀(l m:List Int),num (l++m)=num l+256 ^ l.length * num m
  | [],m=>by simp [num]
  | b::r,m=>by
    simp only [List.cons_append,num,List.length_cons,pow_succ256,num_append r m,Int.mul_add,Int.mul_assoc]
    omega
theorem tmod256 {n:Int} (h:0≤n):n.tmod 256=n % 256:=Int.tmod_eq_emod_of_nonneg h
theorem tdiv256 {n:Int} (h:0≤n):n.tdiv 256=n / 256:=Int.tdiv_eq_ediv_of_nonneg h
theorem app_cat {l m:List Int} (h:l.length+m.length≤140737488355328):app 1 l m=some (l++m):=by
  rw [app_small (by omega) (by omega)]
theorem rnum_ok (F:Nat) (b m:List Int) (at_:Nat) (hF:m.length<F) (hb:∀x∈m,Byte x) (hm:m.length≤8) (hat:at_≤1000000) (h:∀i,i<m.length→b[at_+i]? = m[i]?):wirelessref23_Num F b at_ (m.length:Int)=some (num m):=by
  have key:∀(k f:Nat) (r:List Int),r.length+k=m.length→(∀i,i<r.length→m[k+i]? = r[i]?)→k<f→iter (fun s=>wirelessref23_Num_l1 F b at_ s.1 s.2) f (num r,(k:Int) - 1)=some (num (m.take k++r)):=by
    intro k
    induction k with
    | zero=>
      intro f r hr _ hf
      cases f with
      | zero=>omega
      | succ f=>
        rw [iter_stop (o:=num r) (by unfold wirelessref23_Num_l1; rw [if_neg (by simp)])]
        simp
    | succ k ih=>
      intro f r hr hri hf
      cases f with
      | zero=>omega
      | succ f=>
        have hk:k<m.length:=by omega
        have hx:m[k]? = some m[k]:=List.getElem?_eq_getElem hk
        have hbx:=hb m[k] (List.getElem_mem hk)
        have hrb:∀x∈r,Byte x:=by
          intro x hx
          obtain⟨i,hi⟩:=List.getElem?_of_mem hx
          have hil:=(List.getElem?_eq_some_iff.1 hi).1
          rw [← hri i hil] at hi
          exact hb x (List.mem_of_getElem? hi)
        have hn0:=num_nonneg hrb
        have hn1:=num_lt hrb
        have hpow:(256:Int) ^ r.length≤256 ^ 7:=by
          have h2:(256:Nat) ^ r.length≤256 ^ 7:=Nat.pow_le_pow_right (by decide) (by omega)
          have h3:((256 ^ r.length:Nat):Int)≤((256 ^ 7:Nat):Int):=Int.ofNat_le.2 h2
          rw [Int.natCast_pow,Int.natCast_pow] at h3
          exact h3
        have hidx:idx b (w64 ((at_:Int)+((k+1:Nat) - 1:Int)))=some m[k]:=by
          rw [show (at_:Int)+(((k+1:Nat):Int) - 1)=((at_+k:Nat):Int) from by omega,w64_id (by omega) (by omega),idx_nat,h k hk,hx]
        have hstep:wirelessref23_Num_l1 F b at_ (num r) (((k+1:Nat):Int) - 1)=some (.next (num (m[k]::r),(k:Int) - 1)):=by
          unfold wirelessref23_Num_l1
          rw [if_pos (by simp),hidx]
          simp only [Option.bind_some,num]
          obtain⟨hb0,hb1⟩:=hbx
          rw [wu64_id (x:=num r * 256) (by omega) (by omega),wu64_id (x:=m[k]) (by omega) (by omega),wu64_id (by omega) (by omega),w64_id (by omega) (by omega)]
          congr 3 <;> omega
        rw [iter_step hstep,ih f (m[k]::r) (by simp; omega) (by
          intro i hi
          cases i with
          | zero=>simp
          | succ i=>
            have:=hri i (by simp at hi; omega)
            rw [show k+(i+1)=k+1+i from by omega]
            simpa using this) (by omega)]
        rw [List.take_add_one,hx,List.append_assoc]
        rfl
  unfold wirelessref23_Num
  rw [w64_id (by omega) (by omega)]
  have:=key m.length F [] (by simp) (by simp) hF
  simp only [num,List.take_length,List.append_nil] at this
  rw [this]
  rfl
theorem same_refl (F:Nat) (l:List Int):wirelessref23_Same F l l=some true:=by simp [wirelessref23_Same]
theorem join_step (F:Nat) (ps:List (List Int)) (l:List Int) (i:Nat) (x:List Int) (hx:ps[i]? = some x) (hl:l.length+x.length≤140737488355328) (hi:ps.length≤9000000000000000000):octets_Join_l1 F ps l i=some (.next (l++x,((i+1:Nat):Int))):=by
  have hlt:i<ps.length:=(List.getElem?_eq_some_iff.1 hx).1
  unfold octets_Join_l1
  have hd:decide ((i:Int)<len ps)=true:=by simp [len]; omega
  rw [if_pos hd,idx_nat,hx]
  simp only [Option.bind_some]
  rw [app_cat hl]
  simp only [Option.bind_some]
  rw [w64_nat i (by omega)]
theorem join_two (F:Nat) (a b:List Int) (hF:2<F) (h:a.length+b.length≤140737488355328):octets_Join F [a,b]=some (a++b):=by
  unfold octets_Join
  obtain⟨F',rfl⟩:∃F',F=F'+1+1+1:=⟨F - 3,by omega⟩
  have h1:octets_Join_l1 (F'+1+1+1) [a,b] [] 0=some (.next (a,1)):=by simpa using join_step (F'+1+1+1) [a,b] [] 0 a rfl (by simp; omega) (by simp)
  have h2:octets_Join_l1 (F'+1+1+1) [a,b] a 1=some (.next (a++b,2)):=by simpa using join_step (F'+1+1+1) [a,b] a 1 b rfl (by omega) (by simp)
  rw [iter_step h1,iter_step h2,iter_stop (o:=a++b) (by unfold octets_Join_l1; rw [if_neg (by simp [len])])]
  rfl
theorem join_one (F:Nat) (a:List Int) (hF:1<F) (h:a.length≤140737488355328):octets_Join F [a]=some a:=by
  unfold octets_Join
  obtain⟨F',rfl⟩:∃F',F=F'+1+1:=⟨F - 2,by omega⟩
  have h1:octets_Join_l1 (F'+1+1) [a] [] 0=some (.next (a,1)):=by simpa using join_step (F'+1+1) [a] [] 0 a rfl (by simp; omega) (by simp)
  rw [iter_step h1,iter_stop (o:=a) (by unfold octets_Join_l1; rw [if_neg (by simp [len])])]
  rfl
theorem nat_or_add (a b i:Nat) (ha:a<2 ^ i):a ||| (b * 2 ^ i)=a+b * 2 ^ i:=by
  have h:=Nat.shiftLeft_add_eq_or_of_lt ha b
  rw [Nat.shiftLeft_eq] at h
  rw [Nat.or_comm,← h,Nat.add_comm]
theorem pow256 (i:Nat):(256:Int) ^ i=((2 ^ (8 * i):Nat):Int):=by
  rw [Nat.pow_mul,show (2:Nat) ^ 8=256 from by decide]
  exact (congrArg (fun z:Int=>z ^ i) (rfl:(256:Int)=((256:Nat):Int))).trans (Int.natCast_pow 256 i).symm
theorem ior_add (a b:Int) (i:Nat) (hi:i<8) (h0:0≤a) (h1:a<256 ^ i) (h2:Byte b):ior .u64 a (b * 256 ^ i)=a+b * 256 ^ i:=by
  obtain⟨b0,b1⟩:=h2
  obtain⟨a,rfl⟩:=Int.eq_ofNat_of_zero_le h0
  obtain⟨b,rfl⟩:=Int.eq_ofNat_of_zero_le b0
  have hp:=pow256 i
  rw [hp] at h1 ⊢
  have ha:a<2 ^ (8 * i):=by exact_mod_cast h1
  have hb:b<256:=by omega
  have hle:(2:Nat) ^ (8 * i)≤2 ^ 56:=Nat.pow_le_pow_right (by decide) (by omega)
  have hbl:b * 2 ^ (8 * i)<2 ^ 64:=by
    have:b * 2 ^ (8 * i)≤255 * 2 ^ 56:=Nat.mul_le_mul (by omega) hle
    omega
  have hs:a+b * 2 ^ (8 * i)<2 ^ 64:=by
    have:(b+1) * 2 ^ (8 * i)≤256 * 2 ^ 56:=Nat.mul_le_mul (by omega) hle
    rw [Nat.add_mul] at this
    omega
  unfold ior
  have e:((b:Int) * ((2 ^ (8 * i):Nat):Int))=((b * 2 ^ (8 * i):Nat):Int):=by rw [Int.natCast_mul]
  have e2:(BitVec.ofInt IntKind.u64.bits (a:Int) ||| BitVec.ofInt IntKind.u64.bits ((b:Int) * ((2 ^ (8 * i):Nat):Int))).toNat=a+b * 2 ^ (8 * i):=by
    rw [e,BitVec.toNat_or]
    show (BitVec.ofInt 64 (a:Int)).toNat ||| (BitVec.ofInt 64 ((b * 2 ^ (8 * i):Nat):Int)).toNat=_
    rw [BitVec.toNat_ofInt,BitVec.toNat_ofInt]
    rw [show (((a:Nat):Int) % ((2 ^ 64:Nat):Int)).toNat=a from by rw [← Int.natCast_emod,Int.toNat_natCast,Nat.mod_eq_of_lt (by omega)]]
    rw [show (((b * 2 ^ (8 * i):Nat):Int) % ((2 ^ 64:Nat):Int)).toNat=b * 2 ^ (8 * i) from by rw [← Int.natCast_emod,Int.toNat_natCast,Nat.mod_eq_of_lt hbl]]
    exact nat_or_add a b (8 * i) ha
  rw [e2,wrap_u64]
  unfold wu64
  rw [Int.natCast_add,Int.natCast_mul]
  rw [show ((a:Int)+(b:Int) * ((2 ^ (8 * i):Nat):Int))=((a+b * 2 ^ (8 * i):Nat):Int) from by rw [Int.natCast_add,Int.natCast_mul]]
  omega
theorem pow2_nat (i:Nat):(2:Int) ^ (8 * i)=((2 ^ (8 * i):Nat):Int):=(congrArg (fun z:Int=>z ^ (8 * i)) (rfl:(2:Int)=((2:Nat):Int))).trans (Int.natCast_pow 2 (8 * i)).symm
theorem shl_le (x i:Nat) (h1:(x:Int)<256) (hi:i<8):x * 2 ^ (8 * i)≤255 * 2 ^ 56:=by
  have hle:(2:Nat) ^ (8 * i)≤2 ^ 56:=Nat.pow_le_pow_right (by decide) (by omega)
  exact Nat.mul_le_mul (by omega) hle
theorem wu64_le (q:Nat) (hb:q≤255 * 2 ^ 56):wu64 (q:Int)=q:=by
  rw [wu64_id (by omega) (by omega)]
theorem shl_core (x i:Nat) (hi:i<8):ishl .u64 (x:Int) (8 * i)=some (IntKind.u64.wrap ((x:Int) * 2 ^ (8 * i))):=by
  unfold ishl
  rw [if_neg (by omega)]
  have e1:min (8 * (i:Int)).toNat IntKind.u64.bits=8 * i:=by
    show min (8 * (i:Int)).toNat 64=8 * i
    omega
  rw [e1]
theorem shl_bytes {x:Int} (hx:Byte x) (i:Nat) (hi:i<8):ishl .u64 (wu64 x) (w64 (8 * i))=some (x * 256 ^ i):=by
  obtain⟨h0,h1⟩:=hx
  obtain⟨x,rfl⟩:=Int.eq_ofNat_of_zero_le h0
  have e1:w64 (8 * (i:Int))=8 * i:=w64_id (by omega) (by omega)
  have e2:wu64 (x:Int)=x:=wu64_id (by omega) (by omega)
  have e3:=wu64_le _ (shl_le x i h1 hi)
  rw [Int.natCast_mul,← pow2_nat] at e3
  have e4:(256:Int) ^ i=2 ^ (8 * i):=(pow256 i).trans (pow2_nat i).symm
  rw [e1,e2,shl_core x i hi,wrap_u64,e3,e4]
end V
end Go.Proofs.YtoahakdkgefgiaaGreat

namespace Go.Proofs.YtoahakdkgefgiaaGreat
namespace V
theorem iter_find {S O α:Type} {body:S→Option (Out S O)} (st:Nat→S) {l:List α} {p:α→Bool} {g:Nat→O} {e:O} (h:∀(i:Nat) x,l[i]? = some x→body (st i)=some (if p x=true then .done (g i) else .next (st (i+1)))) (he:body (st l.length)=some (.done e)) :
    ∀(F i:Nat),i≤l.length→l.length - i<F→iter body F (st i)=some (match (l.drop i).findIdx? p with | some k=>g (i+k) | none=>e)
  | 0,i,_,hF=>by omega
  | F+1,i,hi,hF=>by
    by_cases hin:i<l.length
    · have hx:l[i]? = some l[i]:=List.getElem?_eq_getElem hin
      have hdr:l.drop i=l[i]::l.drop (i+1):=List.drop_eq_getElem_cons hin
      have hb:=h i _ hx
      by_cases hp:p l[i]=true
      · rw [if_pos hp] at hb
        rw [iter_stop hb,hdr,List.findIdx?_cons,hp]
        rfl
      · rw [if_neg hp] at hb
        rw [iter_step hb,iter_find st h he F (i+1) hin (by omega),hdr,List.findIdx?_cons,if_neg hp]
        cases (l.drop (i+1)).findIdx? p with
        | none=>rfl
        | some k=>simp only [Option.map_some]; rw [show i+1+k=i+(k+1) from by omega]
    · have:i=l.length:=by omega
      subst this
      rw [iter_stop he,List.drop_length]
      rfl
theorem df {p:Prop} [Decidable p] (h:¬ p):¬ decide p=true:=by simpa using h
def sht (n:Int):T_UUID:=T_UUID.mk (n * 4294967296+4096) 9223372588214596859
structure UOk (u:T_UUID):Prop where
  h0:0≤u.High
  h1:u.High<18446744073709551616
  l0:0≤u.Low
  l1:u.Low<18446744073709551616
theorem sht_ok {n:Int} (h0:0≤n) (h1:n<65536):UOk (sht n):=⟨by simp only [sht]; omega,by simp only [sht]; omega,by simp only [sht]; omega,by simp only [sht]; omega⟩
theorem rshort (F:Nat) (n:Int) (h0:0≤n) (h1:n<65536):wirelessref41_Short F n=some (sht n):=by
  unfold wirelessref41_Short sht
  rw [wu64_id (x:=n) (by omega) (by omega),wu64_id (x:=n * 4294967296) (by omega) (by omega),wu64_id (by omega) (by omega)]
theorem ofInt_nat (w a:Nat) (h:a<2 ^ w):(BitVec.ofInt w (a:Int)).toNat=a:=by
  rw [BitVec.toNat_ofInt,← Int.natCast_emod,Int.toNat_natCast,Nat.mod_eq_of_lt h]
theorem ior64 (a b:Nat) (ha:a<2 ^ 64) (hb:b<2 ^ 64):ior .u64 (a:Int) (b:Int)=((a ||| b:Nat):Int):=by
  have h:=Nat.or_lt_two_pow ha hb
  unfold ior
  have e:(BitVec.ofInt IntKind.u64.bits (a:Int) ||| BitVec.ofInt IntKind.u64.bits (b:Int)).toNat=a ||| b:=by
    rw [BitVec.toNat_or]
    show (BitVec.ofInt 64 (a:Int)).toNat ||| (BitVec.ofInt 64 (b:Int)).toNat=_
    rw [ofInt_nat 64 a ha,ofInt_nat 64 b hb]
  rw [e,wrap_u64,wu64_id (by omega) (by omega)]
theorem ior16 (a b:Nat) (ha:a<2 ^ 16) (hb:b<2 ^ 16):ior .u16 (a:Int) (b:Int)=((a ||| b:Nat):Int):=by
  have h:=Nat.or_lt_two_pow ha hb
  unfold ior
  have e:(BitVec.ofInt IntKind.u16.bits (a:Int) ||| BitVec.ofInt IntKind.u16.bits (b:Int)).toNat=a ||| b:=by
    rw [BitVec.toNat_or]
    show (BitVec.ofInt 16 (a:Int)).toNat ||| (BitVec.ofInt 16 (b:Int)).toNat=_
    rw [ofInt_nat 16 a ha,ofInt_nat 16 b hb]
  rw [e,wrap_u16,wu16_id (by omega) (by omega)]
theorem ushort (F:Nat) (n:Int) (h0:0≤n) (h1:n<65536):uuid_Short F n=some (sht n):=by
  unfold uuid_Short sht
  obtain⟨n,rfl⟩:=Int.eq_ofNat_of_zero_le h0
  have e:shlp .u64 (wu64 (n:Int)) 32=((n * 2 ^ 32:Nat):Int):=by
    unfold shlp
    rw [wu64_id (by omega) (by omega),wrap_u64,show (n:Int) * 2 ^ 32=((n * 2 ^ 32:Nat):Int) from by rw [Int.natCast_mul]; rfl,wu64_id (by omega) (by omega)]
  rw [e,show (4096:Int)=((4096:Nat):Int) from rfl,ior64 _ _ (by omega) (by omega),Nat.or_comm,nat_or_add _ _ 32 (by decide)]
  congr 2
  omega
theorem word16 {x y:Int} (hx:Byte x) (hy:Byte y):ior .u16 (wu16 x) (shlp .u16 (wu16 y) 8)=x+256 * y:=by
  obtain⟨x0,x1⟩:=hx
  obtain⟨y0,y1⟩:=hy
  obtain⟨x,rfl⟩:=Int.eq_ofNat_of_zero_le x0
  obtain⟨y,rfl⟩:=Int.eq_ofNat_of_zero_le y0
  have e:shlp .u16 (wu16 (y:Int)) 8=((y * 2 ^ 8:Nat):Int):=by
    unfold shlp
    rw [wu16_id (by omega) (by omega),wrap_u16,show (y:Int) * 2 ^ 8=((y * 2 ^ 8:Nat):Int) from by rw [Int.natCast_mul]; rfl,wu16_id (by omega) (by omega)]
  rw [e,wu16_id (by omega) (by omega),ior16 _ _ (by omega) (by omega),nat_or_add _ _ 8 (by omega)]
  omega
theorem shrp_eq (x:Int) (n:Nat):shrp x n=x / 2 ^ n:=by
  unfold shrp
  rw [Int.fdiv_eq_ediv_of_nonneg _ (Int.le_of_lt (Int.pow_pos (by decide)))]
theorem ubytes (F:Nat) (u:T_UUID):uuid_bytes F u=some (u.Low % 256,u.Low / 256 % 256,u.Low / 65536 % 256,u.Low / 16777216 % 256,u.Low / 4294967296 % 256,u.Low / 1099511627776 % 256,u.Low / 281474976710656 % 256,u.Low / 72057594037927936 % 256,u.High % 256,u.High / 256 % 256,u.High / 65536 % 256,u.High / 16777216 % 256,u.High / 4294967296 % 256,u.High / 1099511627776 % 256,u.High / 281474976710656 % 256,u.High / 72057594037927936 % 256):=by
  simp only [uuid_bytes,uuid_bytes_u4_1,uuid_bytes_u4_2,uuid_bytes_u4_3,uuid_bytes_u4_4,uuid_bytes_u4_5,uuid_bytes_u4_6,uuid_bytes_u4_7,uuid_bytes_u4_8,uuid_bytes_j1,shrp_eq,wu8,Int.reducePow,Int.ediv_one]
def numb (u:T_UUID):Int×Bool:=if u.Low=9223372588214596859∧u.High % 4294967296=4096∧u.High / 4294967296<65536 then (u.High / 4294967296,true) else (0,false)
theorem unumber (F:Nat) {u:T_UUID} (hu:UOk u):uuid_Number F u=some (numb u):=by
  obtain⟨h0,h1,l0,l1⟩:=hu
  unfold uuid_Number
  rw [ubytes,Option.bind_some,show uuid_bytes F (T_UUID.mk 4096 9223372588214596859)=some (251,52,155,95,128,0,0,128,0,16,0,0,0,0,0,0) from by rw [ubytes]; rfl,Option.bind_some]
  unfold uuid_Number_j1 numb
  by_cases h:u.Low=9223372588214596859∧u.High % 4294967296=4096∧u.High / 4294967296<65536
  · rw [if_pos h]
    obtain⟨h2,h3,h4⟩:=h
    rw [if_neg (by
      rw [Bool.not_eq_true']
      simp only [Bool.not_eq_false,Bool.and_eq_true,beq_iff_eq]
      refine ⟨by omega,by omega,by omega,by omega,by omega,by omega,by omega,by omega,by omega,by omega,by omega,by omega,trivial,trivial,by omega,by omega⟩)]
    simp only
    rw [word16 ⟨by omega,by omega⟩ ⟨by omega,by omega⟩]
    congr 2
    omega
  · rw [if_neg h,if_pos (by
      rw [Bool.not_eq_true',Bool.eq_false_iff]
      intro hc
      simp only [Bool.and_eq_true,beq_iff_eq] at hc
      exact h (by omega))]
theorem rnumber (F:Nat) {u:T_UUID} (hu:UOk u):wirelessref41_Number F u=some (numb u):=by
  obtain⟨h0,h1,l0,l1⟩:=hu
  unfold wirelessref41_Number numb
  have e:quop .u64 u.High 4294967296=u.High / 4294967296:=by
    unfold quop
    rw [Int.tdiv_eq_ediv_of_nonneg h0,wrap_u64,wu64_id (by omega) (by omega)]
  rw [e]
  by_cases hb:u.High / 4294967296 > 65535
  · rw [if_pos (by simpa using hb),if_neg (by omega)]
    rfl
  · rw [if_neg (by simpa using hb),wu16_id (by omega) (by omega),rshort _ _ (by omega) (by omega),Option.bind_some]
    unfold wirelessref41_Number_j1 sht
    simp only
    by_cases h:u.Low=9223372588214596859∧u.High % 4294967296=4096∧u.High / 4294967296<65536
    · rw [if_pos h,if_neg (by
        rw [Bool.not_eq_true']
        simp only [Bool.not_eq_false,Bool.and_eq_true,beq_iff_eq]
        omega),e,wu16_id (by omega) (by omega)]
    · rw [if_neg h,if_pos (by
        rw [Bool.not_eq_true',Bool.eq_false_iff]
        intro hc
        simp only [Bool.and_eq_true,beq_iff_eq] at hc
        exact h (by omega))]
def isN (u:T_UUID) (n:Int):Bool:=u.High == n * 4294967296+4096&&u.Low == 9223372588214596859
theorem isN_sh {m n:Int}:isN (sht m) n=(m == n):=by
  unfold isN sht
  simp only
  by_cases h:m=n
  · subst h; simp
  · rw [beq_false_of_ne h,beq_false_of_ne (by omega)]; rfl
theorem isN_eq {u:T_UUID} {n:Int} (h:isN u n=true):u=sht n:=by
  unfold isN at h
  simp only [Bool.and_eq_true,beq_iff_eq] at h
  cases u
  simp only [sht] at h ⊢
  rw [h.1,h.2]
theorem isN_num {u:T_UUID} {n:Int} (h0:0≤n) (h1:n<65536):((numb u).2&&(n == (numb u).1))=isN u n:=by
  unfold numb isN
  by_cases h:u.Low=9223372588214596859∧u.High % 4294967296=4096∧u.High / 4294967296<65536
  · rw [if_pos h]
    obtain⟨h2,h3,h4⟩:=h
    by_cases hn:n=u.High / 4294967296
    · simp only [Bool.true_and]
      rw [show (n == u.High / 4294967296)=true from by simpa using hn,show (u.High == n * 4294967296+4096)=true from by simp; omega,show (u.Low == 9223372588214596859)=true from by simpa using h2]
      rfl
    · simp only [Bool.true_and]
      rw [beq_false_of_ne hn,beq_false_of_ne (by omega)]
      rfl
  · rw [if_neg h]
    simp only [Bool.false_and]
    symm
    rw [Bool.eq_false_iff]
    intro hc
    simp only [Bool.and_eq_true,beq_iff_eq] at hc
    exact h (by omega)
theorem index_ok (F:Nat) (l:List Int) (v:Int) (hF:l.length<F) (hl:l.length≤1000):slices_Index_uint16_uint16 F l v=some (match l.findIdx? (fun x=>v == x) with | some k=>(k:Int) | none=>-1):=by
  unfold slices_Index_uint16_uint16
  have:=iter_find (body:=fun s=>slices_Index_uint16_uint16_l1 F l v s) (fun i=>(i:Int)) (l:=l) (p:=fun x=>v == x) (g:=fun k=>Sum.inr (k:Int)) (e:=Sum.inl ()) (by
    intro i x hx
    have hi:=(List.getElem?_eq_some_iff.1 hx).1
    show slices_Index_uint16_uint16_l1 F l v i=_
    unfold slices_Index_uint16_uint16_l1
    rw [if_pos (by simp [len]; omega),idx_nat,hx,Option.bind_some,w64_nat i (by omega)]
    split <;> rfl) (by
    show slices_Index_uint16_uint16_l1 F l v _=_
    unfold slices_Index_uint16_uint16_l1
    rw [if_neg (by simp [len])]) F 0 (by omega) (by omega)
  rw [show ((0:Nat):Int)=0 from rfl] at this
  rw [this,Option.bind_some,List.drop_zero]
  cases l.findIdx? (fun x=>v == x) with
  | none=>rfl
  | some k=>simp
theorem contains_ok (F:Nat) (l:List Int) (v:Int) (hF:l.length<F) (hl:l.length≤1000):slices_Contains_uint16_uint16 F l v=some (l.any fun x=>v == x):=by
  unfold slices_Contains_uint16_uint16
  rw [index_ok F l v hF hl,Option.bind_some]
  congr 1
  cases h:l.findIdx? (fun x=>v == x) with
  | none=>
    rw [List.findIdx?_eq_none_iff] at h
    symm
    simp only [decide_eq_false (show ¬ ((-1:Int)≥0) by omega)]
    rw [List.any_eq_false]
    intro x hx
    rw [h x hx]
    decide
  | some k=>
    have:=List.findIdx?_eq_some_iff_getElem.1 h
    obtain⟨hk,hp,_⟩:=this
    symm
    rw [decide_eq_true (show (k:Int)≥0 by omega),List.any_eq_true]
    exact⟨_,List.getElem_mem hk,hp⟩
theorem is_ok (F:Nat) {u:T_UUID} (hu:UOk u) (l:List Int) (hF:l.length<F) (hl:l.length≤1000) (hb:∀n∈l,0≤n∧n<65536):database_is F u l=some (l.any (isN u)):=by
  unfold database_is
  rw [unumber F hu,Option.bind_some]
  have e:((numb u).2&&l.any fun x=>(numb u).1 == x)=l.any (isN u):=by
    induction l with
    | nil=>simp
    | cons n r ih=>
      have h1:=isN_num (u:=u) (hb n (by simp)).1 (hb n (by simp)).2
      rw [List.any_cons,List.any_cons,← h1,← ih (by simp at hF; omega) (by simp at hl; omega) fun m hm=>hb m (by simp [hm])]
      rw [Bool.and_or_distrib_left,show ((numb u).1 == n)=(n == (numb u).1) from by rw [Bool.eq_iff_iff,beq_iff_eq,beq_iff_eq]; exact eq_comm]
  by_cases h:(numb u).2=true
  · rw [if_pos h,contains_ok F l _ hF hl,Option.bind_some,Option.bind_some,← e,h,Bool.true_and]
  · rw [if_neg h,Option.bind_some,← e,(Bool.not_eq_true _).mp h,Bool.false_and]
def isv (u:T_UUID):Bool:=isN u 10240||isN u 10241
def decl (u:T_UUID):Bool:=isv u||(isN u 10242||isN u 10243)
def resv (u:T_UUID):Bool:=decl u||isN u 10498
theorem is1 (F:Nat) {u:T_UUID} (hu:UOk u) (n:Int) (hF:10<F) (h0:0≤n) (h1:n<65536):database_is F u [n]=some (isN u n):=by
  rw [is_ok F hu [n] (by simp; omega) (by simp) (by simp; omega)]
  simp
theorem service_ok (F:Nat) {u:T_UUID} (hu:UOk u) (hF:10<F):database_service F u=some (isv u):=by
  unfold database_service isv
  rw [is_ok F hu [10240,10241] (by simp; omega) (by simp) (by intro n hn; simp at hn; omega)]
  simp
theorem declaration_ok (F:Nat) {u:T_UUID} (hu:UOk u) (hF:10<F):database_declaration F u=some (decl u):=by
  unfold database_declaration decl
  rw [service_ok F hu hF,Option.bind_some,is_ok F hu [10242,10243] (by simp; omega) (by simp) (by intro n hn; simp at hn; omega)]
  cases isv u <;> simp
theorem reserved_ok (F:Nat) {u:T_UUID} (hu:UOk u) (hF:10<F):database_reserved F u=some (resv u):=by
  unfold database_reserved resv
  rw [declaration_ok F hu hF,Option.bind_some,is1 F hu 10498 hF (by decide) (by decide)]
  cases decl u <;> simp
theorem rIs (F:Nat) (u:T_UUID) (n:Int) (h0:0≤n) (h1:n<65536):wirelessref43_Is F u n=some (isN u n):=by
  unfold wirelessref43_Is
  rw [rshort F n h0 h1]
  rfl
theorem rIsService (F:Nat) (a:T_Attribute):wirelessref43_IsService F a=some (isv a.f_Type):=by
  unfold wirelessref43_IsService isv
  rw [rIs F _ _ (by decide) (by decide),rIs F _ _ (by decide) (by decide),Option.bind_some]
  cases isN a.f_Type 10240 <;> simp
theorem rIsChar (F:Nat) (a:T_Attribute):wirelessref43_IsChar F a=some (isN a.f_Type 10243):=by
  unfold wirelessref43_IsChar
  rw [rIs F _ _ (by decide) (by decide),Option.bind_some]
theorem rdeclares (F:Nat) (u:T_UUID):wirelessref43_declares F u=some (decl u):=by
  unfold wirelessref43_declares decl isv
  simp only [rIs F u 10240 (by decide) (by decide),rIs F u 10241 (by decide) (by decide),rIs F u 10242 (by decide) (by decide),rIs F u 10243 (by decide) (by decide),Option.bind_some]
  cases isN u 10240 <;> cases isN u 10241 <;> cases isN u 10242 <;> simp
theorem rkept (F:Nat) (u:T_UUID):wirelessref43_kept F u=some (resv u):=by
  unfold wirelessref43_kept resv
  rw [rdeclares,Option.bind_some,rIs F _ _ (by decide) (by decide)]
  cases decl u <;> simp
def UZ:T_UUID:=T_UUID.mk 0 0
def decU (b:List Int):T_UUID×Int:=
  if b.length=2 then (sht (num b),0)
  else if b.length<16 then (UZ,3)
  else if b.length > 16 then (UZ,2)
  else if (numb (T_UUID.mk (num (b.drop 8)) (num (b.take 8)))).2=true then (UZ,2)
  else (T_UUID.mk (num (b.drop 8)) (num (b.take 8)),0)
theorem num2 (x y:Int):num [x,y]=x+256 * y:=by simp [num]
theorem uok16 {b:List Int} (hb:∀x∈b,Byte x) (hl:b.length=16):UOk (T_UUID.mk (num (b.drop 8)) (num (b.take 8))):=by
  have h1:∀x∈b.drop 8,Byte x:=fun x hx=>hb x (List.mem_of_mem_drop hx)
  have h2:∀x∈b.take 8,Byte x:=fun x hx=>hb x (List.mem_of_mem_take hx)
  have h3:=num_lt h1
  have h4:=num_lt h2
  rw [show (b.drop 8).length=8 from by simp [hl]] at h3
  rw [show (b.take 8).length=8 from by simp [hl]] at h4
  exact⟨num_nonneg h1,h3,num_nonneg h2,h4⟩
theorem decU_ok {b:List Int} (hb:∀x∈b,Byte x):UOk (decU b).1:=by
  have hz:UOk UZ:=⟨by decide,by decide,by decide,by decide⟩
  unfold decU
  split
  · rename_i h
    match b,h,hb with
    | [x,y],_,hb=>
      have hx:=hb x (by simp)
      have hy:=hb y (by simp)
      obtain⟨x0,x1⟩:=hx
      obtain⟨y0,y1⟩:=hy
      rw [num2]
      exact sht_ok (by omega) (by omega)
  · split
    · exact hz
    · split
      · exact hz
      · split
        · exact hz
        · exact uok16 hb (by omega)
theorem rdecode (F:Nat) {b:List Int} (hb:∀x∈b,Byte x) (hF:20<F):wirelessref41_Decode F b=some (decU b):=by
  unfold wirelessref41_Decode decU
  by_cases h2:b.length=2
  · rw [if_pos (show (len b == 2)=true from by simp [len]; omega),if_pos h2]
    match b,h2,hb with
    | [x,y],_,hb=>
      have h:=rnum_ok F [x,y] [x,y] 0 (by simp; omega) hb (by simp) (by omega) (by simp)
      have hx:=hb x (by simp)
      have hy:=hb y (by simp)
      obtain⟨x0,x1⟩:=hx
      obtain⟨y0,y1⟩:=hy
      have h':wirelessref23_Num F [x,y] 0 2=some (num [x,y]):=h
      rw [h',Option.bind_some]
      rw [num2,wu16_id (by omega) (by omega),rshort F _ (by omega) (by omega),Option.bind_some]
  · rw [if_neg (show ¬ (len b == 2)=true from by simp [len]; omega),if_neg h2]
    by_cases h16:b.length<16
    · rw [if_pos (decide_eq_true (show len b<16 by rw [len_nat]; omega)),if_pos h16]; rfl
    · rw [if_neg (df (show ¬ len b<16 by rw [len_nat]; omega)),if_neg h16]
      by_cases h17:b.length > 16
      · rw [if_pos (decide_eq_true (show len b > 16 by rw [len_nat]; omega)),if_pos h17]; rfl
      · rw [if_neg (df (show ¬ len b > 16 by rw [len_nat]; omega)),if_neg h17]
        have hl:b.length=16:=by omega
        have h1:∀x∈b.drop 8,Byte x:=fun x hx=>hb x (List.mem_of_mem_drop hx)
        have h2:∀x∈b.take 8,Byte x:=fun x hx=>hb x (List.mem_of_mem_take hx)
        have e1:(b.drop 8).length=8:=by simp [hl]
        have e2:(b.take 8).length=8:=by simp [hl]
        have a:=rnum_ok F b (b.take 8) 0 (by omega) h2 (by omega) (by omega) (by
          intro i hi
          rw [List.getElem?_take,if_pos (by omega),Nat.zero_add])
        have c:=rnum_ok F b (b.drop 8) 8 (by omega) h1 (by omega) (by omega) (by
          intro i hi
          rw [List.getElem?_drop])
        rw [e2] at a
        rw [e1] at c
        have a':wirelessref23_Num F b 0 8=some (num (b.take 8)):=a
        have c':wirelessref23_Num F b 8 8=some (num (b.drop 8)):=c
        rw [a',Option.bind_some,c',Option.bind_some,rnumber F (uok16 hb hl),Option.bind_some]
        split <;> rfl
theorem ior_num {b:List Int} {i:Nat} (hb:∀x∈b,Byte x) (hi:i<8) (x:Int) (hx:b[i]? = some x):ior .u64 (num (b.take i)) (x * 256 ^ i)=num (b.take (i+1)):=by
  have hl:(b.take i).length=i:=by
    have:=(List.getElem?_eq_some_iff.1 hx).1
    simp; omega
  have ht:∀x∈b.take i,Byte x:=fun x hx=>hb x (List.mem_of_mem_take hx)
  have h1:=num_lt ht
  rw [hl] at h1
  rw [ior_add _ _ i hi (num_nonneg ht) h1 (hb x (List.mem_of_getElem? hx)),List.take_add_one,hx,num_append,hl]
  simp only [Option.toList_some,num]
  rw [Int.mul_zero,Int.add_zero,Int.mul_comm]
theorem udecode (F:Nat) {b:List Int} (hb:∀x∈b,Byte x) (hF:20<F):uuid_Decode F b=some (decU b):=by
  unfold uuid_Decode decU
  by_cases h2:b.length=2
  · rw [if_pos (show (len b == 2)=true from by simp [len]; omega),if_pos h2]
    match b,h2,hb with
    | [x,y],_,hb=>
      have hx:=hb x (by simp)
      have hy:=hb y (by simp)
      rw [show idx [x,y] 0=some x from rfl,show idx [x,y] 1=some y from rfl,Option.bind_some,Option.bind_some,word16 hx hy,num2]
      obtain⟨x0,x1⟩:=hx
      obtain⟨y0,y1⟩:=hy
      rw [ushort F _ (by omega) (by omega),Option.bind_some]
      rfl
  · rw [if_neg (show ¬ (len b == 2)=true from by simp [len]; omega),if_neg h2]
    by_cases h16:b.length<16
    · rw [if_pos (decide_eq_true (show len b<16 by rw [len_nat]; omega)),if_pos h16]; rfl
    · rw [if_neg (df (show ¬ len b<16 by rw [len_nat]; omega)),if_neg h16]
      by_cases h17:b.length > 16
      · rw [if_pos (decide_eq_true (show len b > 16 by rw [len_nat]; omega)),if_pos h17]; rfl
      · rw [if_neg (df (show ¬ len b > 16 by rw [len_nat]; omega)),if_neg h17]
        have hl:b.length=16:=by omega
        have h1:∀x∈b.drop 8,Byte x:=fun x hx=>hb x (List.mem_of_mem_drop hx)
        have:=iter_count (body:=fun s:T_UUID×Int=>uuid_Decode_l1 F b s.1 s.2) (fun i=>(T_UUID.mk (num ((b.drop 8).take i)) (num (b.take i)),(i:Int))) 8 (T_UUID.mk (num (b.drop 8)) (num (b.take 8))) (by
          intro i hi
          have hx:b[i]? = some b[i]:=List.getElem?_eq_getElem (by omega)
          have hy:b[8+i]? = some b[8+i]:=List.getElem?_eq_getElem (by omega)
          have hy':(b.drop 8)[i]? = some b[8+i]:=by rw [List.getElem?_drop]; exact hy
          show uuid_Decode_l1 F b _ (i:Int)=_
          unfold uuid_Decode_l1
          rw [if_pos (by simp; omega),idx_nat,hx,Option.bind_some,shl_bytes (hb _ (List.mem_of_getElem? hx)) i hi,Option.bind_some]
          unfold uuid_Decode_j3
          rw [w64_id (x:=8+(i:Int)) (by omega) (by omega),show (8:Int)+i=((8+i:Nat):Int) from by omega,idx_nat,hy,Option.bind_some,shl_bytes (hb _ (List.mem_of_getElem? hy)) i hi,Option.bind_some,w64_nat i (by omega)]
          simp only
          rw [ior_num hb hi _ hx,ior_num h1 hi _ hy']) (by
          show uuid_Decode_l1 F b _ ((8:Nat):Int)=_
          unfold uuid_Decode_l1
          rw [if_neg (by simp),show (b.drop 8).take 8=b.drop 8 from List.take_of_length_le (by simp [hl])]) F 0 (by omega) (by omega)
        rw [List.take_zero,List.take_zero] at this
        have h0:((T_UUID.mk (num []) (num []),((0:Nat):Int)):T_UUID×Int)=(T_UUID.mk 0 0,0):=rfl
        rw [h0] at this
        rw [this,Option.bind_some]
        unfold uuid_Decode_j2
        rw [unumber F (uok16 hb hl),Option.bind_some]
        split <;> rfl
end V
end Go.Proofs.YtoahakdkgefgiaaGreat

namespace Go.Proofs.YtoahakdkgefgiaaGreat
namespace V
theorem dt {p:Prop} [Decidable p] (h:p):decide p=true:=decide_eq_true h
theorem iter_sim {S1 S2 O1 O2:Type} {b1:S1→Option (Out S1 O1)} {b2:S2→Option (Out S2 O2)} (R:S1→S2→Prop) (Q:O1→O2→Prop) (m:S1→Nat)
    (h:∀s1 s2,R s1 s2→(∃t1 t2,b1 s1=some (.next t1)∧b2 s2=some (.next t2)∧R t1 t2∧m t1<m s1)∨∃o1 o2,b1 s1=some (.done o1)∧b2 s2=some (.done o2)∧Q o1 o2) :
    ∀(F:Nat) (s1:S1) (s2:S2),R s1 s2→m s1<F→∃o1 o2,iter b1 F s1=some o1∧iter b2 F s2=some o2∧Q o1 o2
  | 0,_,_,_,hF=>by omega
  | F+1,s1,s2,hR,hF=>by
    rcases h s1 s2 hR with ⟨t1,t2,h1,h2,hR',hm⟩ | ⟨o1,o2,h1,h2,hq⟩
    · obtain⟨o1,o2,h3,h4,hq⟩:=iter_sim R Q m h F t1 t2 hR' (by omega)
      exact⟨o1,o2,by rw [iter_step h1,h3],by rw [iter_step h2,h4],hq⟩
    · exact⟨o1,o2,iter_stop h1,iter_stop h2,hq⟩
structure AOk (a:T_Attribute):Prop where
  h0:0≤a.Handle
  h1:a.Handle<65536
  u:UOk a.f_Type
  b:∀x∈a.Value,Byte x
  l:a.Value.length≤140737488355328
def prt (b:List Int):Int×Int×T_UUID×Bool:=
  if b.length<3 then (0,0,UZ,false)
  else (num (b.take 1),num ((b.drop 1).take 2),(decU (b.drop 3)).1,(decU (b.drop 3)).2 == 0)
theorem sub_drop {α:Type} (l:List α) (k:Nat) (h:k≤l.length):sub l (k:Int) (len l)=some (l.drop k):=by
  rw [len_nat,sub_nat l k l.length h (by omega),List.take_length]
theorem rparts (F:Nat) {b:List Int} (hb:∀x∈b,Byte x) (hF:20<F):wirelessref43_CharParts F b=some (prt b):=by
  unfold wirelessref43_CharParts prt
  by_cases h3:b.length<3
  · rw [if_pos (dt (show len b<3 by rw [len_nat]; omega)),if_pos h3]; rfl
  · rw [if_neg (df (show ¬ len b<3 by rw [len_nat]; omega)),if_neg h3]
    have hs:=sub_drop b 3 (by omega)
    rw [show ((3:Nat):Int)=3 from rfl] at hs
    rw [hs,Option.bind_some,rdecode F (fun x hx=>hb x (List.mem_of_mem_drop hx)) hF,Option.bind_some]
    match b,h3,hb with
    | x::y::z::r,_,hb=>
      obtain⟨x0,x1⟩:=hb x (by simp)
      obtain⟨y0,y1⟩:=hb y (by simp)
      obtain⟨z0,z1⟩:=hb z (by simp)
      have h:=rnum_ok F (x::y::z::r) [y,z] 1 (by simp; omega) (fun w hw=>hb w (by simp at hw ⊢; rcases hw with rfl | rfl <;> simp)) (by simp) (by omega) (by
        intro i hi
        match i,hi with
        | 0,_=>rfl
        | 1,_=>rfl)
      have h':wirelessref23_Num F (x::y::z::r) 1 2=some (num [y,z]):=h
      rw [show idx (x::y::z::r) 0=some x from rfl,Option.bind_some,h',Option.bind_some,num2,wu16_id (by omega) (by omega),w64_id (by omega) (by omega)]
      unfold wirelessref43_CharParts_j1
      simp [num]
theorem udescribed (F:Nat) {b:List Int} (hb:∀x∈b,Byte x) (hF:20<F):database_described F b=some (if (prt b).2.2.2=true then prt b else (0,0,UZ,false)):=by
  unfold database_described prt
  by_cases h3:b.length<3
  · rw [if_pos (dt (show len b<3 by rw [len_nat]; omega)),if_pos h3]; rfl
  · rw [if_neg (df (show ¬ len b<3 by rw [len_nat]; omega)),if_neg h3]
    have hs:=sub_drop b 3 (by omega)
    rw [show ((3:Nat):Int)=3 from rfl] at hs
    rw [hs,Option.bind_some,udecode F (fun x hx=>hb x (List.mem_of_mem_drop hx)) hF,Option.bind_some]
    by_cases he:(decU (b.drop 3)).2=0
    · rw [if_neg (by simp [he]),if_pos (show ((decU (b.drop 3)).2 == 0)=true by simpa using he)]
      match b,h3,hb with
      | x::y::z::r,_,hb=>
        have hx:=hb x (by simp)
        have hy:=hb y (by simp)
        have hz:=hb z (by simp)
        obtain⟨x0,x1⟩:=hx
        rw [show idx (x::y::z::r) 0=some x from rfl,show idx (x::y::z::r) 1=some y from rfl,show idx (x::y::z::r) 2=some z from rfl,Option.bind_some,Option.bind_some,Option.bind_some,word16 hy hz,w64_id (by omega) (by omega)]
        unfold database_described_j1
        simp only [List.drop_succ_cons,List.drop_zero] at he ⊢
        rw [he]
        simp [num]
    · rw [if_pos (by simp [he]),if_neg (show ¬ ((decU (b.drop 3)).2 == 0)=true by simpa using he)]; rfl
def cw (db:List T_Attribute) (i:Nat) (a:T_Attribute):Bool:=match db[i+1]? with
  | none=>true
  | some b=>(!(prt a.Value).2.2.2||resv (prt a.Value).2.2.1)||(b.Handle != (prt a.Value).2.1 || !(b.f_Type.High == (prt a.Value).2.2.1.High&&b.f_Type.Low == (prt a.Value).2.2.1.Low))
def wrg (db:List T_Attribute) (i:Nat) (p:T_database_place) (a:T_Attribute):Bool:=
  if (((i:Int) == 0 && !isv a.f_Type)||(decl a.f_Type&&(iand .i64 a.Perms 2 != 0)))=true then true
  else if isv a.f_Type=true then (decU a.Value).2 != 0
  else if isN a.f_Type 10243=true then cw db i a
  else if isN a.f_Type 10498=true then ((len a.Value != 2 || !p.char)||p.config)
  else false
theorem prt_ok {b:List Int} (hb:∀x∈b,Byte x):UOk (prt b).2.2.1:=by
  unfold prt
  split
  · exact⟨by decide,by decide,by decide,by decide⟩
  · exact decU_ok fun x hx=>hb x (List.mem_of_mem_drop hx)
theorem uwrong (F:Nat) {db:List T_Attribute} {i:Nat} {a:T_Attribute} (p:T_database_place) (hi:db[i]? = some a) (hn:db.length≤9000000000000000) (ha:AOk a) (hF:20<F):database_wrong F db i p=some (wrg db i p a):=by
  have hil:=(List.getElem?_eq_some_iff.1 hi).1
  unfold database_wrong wrg
  rw [idx_nat,hi,Option.bind_some,service_ok F ha.u (by omega),declaration_ok F ha.u (by omega)]
  have hj:∀z:Bool,database_wrong_j1 F db i p a z=some (if z=true then true else if isv a.f_Type=true then (decU a.Value).2 != 0 else if isN a.f_Type 10243=true then cw db i a else if isN a.f_Type 10498=true then ((len a.Value != 2 || !p.char)||p.config) else false):=by
    intro z
    unfold database_wrong_j1
    cases z with
    | true=>rfl
    | false=>
      rw [if_neg (by decide),if_neg (by decide),service_ok F ha.u (by omega),Option.bind_some]
      by_cases hs:isv a.f_Type=true
      · rw [if_pos hs,if_pos hs,udecode F ha.b hF,Option.bind_some]
      · rw [if_neg hs,if_neg hs,is1 F ha.u 10243 (by omega) (by decide) (by decide),Option.bind_some]
        by_cases hc:isN a.f_Type 10243=true
        · rw [if_pos hc,if_pos hc,udescribed F ha.b hF,Option.bind_some]
          unfold cw
          have hw:w64 ((i:Int)+1)=((i+1:Nat):Int):=w64_nat i (by omega)
          by_cases ho:(prt a.Value).2.2.2=true
          · rw [if_pos ho,if_neg (by rw [ho]; decide),reserved_ok F (prt_ok ha.b) (by omega),Option.bind_some,hw,ho]
            by_cases hl:i+1<db.length
            · rw [List.getElem?_eq_getElem hl,idx_nat,List.getElem?_eq_getElem hl]
              simp only [Option.bind_some]
              by_cases hr:resv (prt a.Value).2.2.1=true
              · rw [if_pos (by rw [hr]; rfl),hr]; rfl
              · rw [if_neg (by rw [(Bool.not_eq_true _).mp hr,Bool.false_or]; exact df (by rw [len_nat]; omega)),(Bool.not_eq_true _).mp hr]
                by_cases hh:(db[i+1].Handle != (prt a.Value).2.1)=true
                · rw [if_pos hh,hh]; rfl
                · rw [if_neg hh,(Bool.not_eq_true _).mp hh]; rfl
            · rw [List.getElem?_eq_none (by omega),if_pos (by
                rw [Bool.or_eq_true]
                exact .inr (dt (by rw [len_nat]; omega)))]
              rfl
          · rw [if_neg ho,if_pos (by rfl),if_pos (by rfl),(Bool.not_eq_true _).mp ho]
            cases db[i+1]? <;> rfl
        · rw [if_neg hc,if_neg hc,is1 F ha.u 10498 (by omega) (by decide) (by decide),Option.bind_some]
          by_cases hg:isN a.f_Type 10498=true
          · rw [if_pos hg,if_pos hg]
          · rw [if_neg hg,if_neg hg]
  by_cases h0:((i:Int) == 0)=true
  · rw [if_pos h0,Option.bind_some,Option.bind_some,h0,Bool.true_and]
    by_cases hs:isv a.f_Type=true
    · rw [hs]
      simp only [Bool.not_true,Bool.false_eq_true,if_false,Option.bind_some,Bool.false_or]
      rw [hj,hs]
      simp
    · rw [(Bool.not_eq_true _).mp hs]
      simp only [Bool.not_false,if_true,Bool.true_or]
      rw [hj]
      rfl
  · rw [if_neg h0,Option.bind_some,if_neg (by decide),Option.bind_some,(Bool.not_eq_true _).mp h0,Bool.false_and,Bool.false_or,hj]
def stepP (p:T_database_place) (u:T_UUID):T_database_place:=
  if isv u=true then T_database_place.mk false false
  else if isN u 10243=true then T_database_place.mk true false
  else if isN u 10498=true then { p with config:=true }
  else p
def plc (l:List T_Attribute):T_database_place:=l.foldl (fun p a=>stepP p a.f_Type) (T_database_place.mk false false)
theorem plc_snoc (l:List T_Attribute) (a:T_Attribute):plc (l++[a])=stepP (plc l) a.f_Type:=by simp [plc]
def cho (db:List T_Attribute):Nat→Int
  | 0=>-1
  | k+1=>match db[k]? with
    | none=>-1
    | some a=>if isN a.f_Type 10243=true then (k:Int) else if isv a.f_Type=true then -1 else cho db k
theorem isN_ne {u:T_UUID} {m n:Int} (h:isN u m=true) (hn:m≠n):isN u n=false:=by
  rw [isN_eq h,isN_sh]
  exact beq_false_of_ne hn
theorem char_not {u:T_UUID} (h:isN u 10243=true):isv u=false∧isN u 10498=false:=by
  unfold isv
  rw [isN_ne h (by decide),isN_ne h (by decide),isN_ne h (by decide)]
  exact⟨rfl,rfl⟩
theorem conf_not {u:T_UUID} (h:isN u 10498=true):isv u=false∧isN u 10243=false:=by
  unfold isv
  rw [isN_ne h (by decide),isN_ne h (by decide),isN_ne h (by decide)]
  exact⟨rfl,rfl⟩
theorem cho_plc (db:List T_Attribute):∀k,k≤db.length→(cho db k = -1∧(plc (db.take k)).char=false)∨∃c:Nat,c<k∧cho db k=c∧(plc (db.take k)).char=true∧((db.take k).drop c).any (fun a=>isN a.f_Type 10498)=(plc (db.take k)).config
  | 0,_=>.inl ⟨rfl,rfl⟩
  | k+1,hk=>by
    have hx:db[k]? = some db[k]:=List.getElem?_eq_getElem hk
    have ht:db.take (k+1)=db.take k++[db[k]]:=by rw [List.take_add_one,hx]; rfl
    have ih:=cho_plc db k (by omega)
    have hl:(db.take k).length=k:=by simp; omega
    rw [ht,plc_snoc]
    simp only [cho,hx]
    unfold stepP
    by_cases hc:isN db[k].f_Type 10243=true
    · obtain⟨h1,h2⟩:=char_not hc
      rw [if_pos hc,h1,if_neg (by decide),if_pos hc]
      refine .inr ⟨k,by omega,rfl,rfl,?_⟩
      rw [List.drop_append_of_le_length (by omega),List.drop_of_length_le (by omega)]
      simp [h2]
    · rw [if_neg hc]
      by_cases hs:isv db[k].f_Type=true
      · rw [if_pos hs,if_pos hs]
        exact .inl ⟨rfl,rfl⟩
      · rw [if_neg hs,if_neg hs,if_neg hc]
        by_cases hg:isN db[k].f_Type 10498=true
        · rw [if_pos hg]
          rcases ih with ⟨h1,h2⟩ | ⟨c,h0,h1,h2,h3⟩
          · exact .inl ⟨h1,h2⟩
          · refine .inr ⟨c,by omega,h1,h2,?_⟩
            rw [List.drop_append_of_le_length (by omega),List.any_append]
            simp [hg]
        · rw [if_neg hg]
          rcases ih with ⟨h1,h2⟩ | ⟨c,h0,h1,h2,h3⟩
          · exact .inl ⟨h1,h2⟩
          · refine .inr ⟨c,by omega,h1,h2,?_⟩
            rw [List.drop_append_of_le_length (by omega),List.any_append,h3]
            simp [(Bool.not_eq_true _).mp hg]
theorem rcharOf (F:Nat) (db:List T_Attribute) (i:Nat) (hi:i<db.length) (hF:i+5<F) (hn:db.length≤9000000000000000):wirelessref43_charOf F db i=some (cho db (i+1)):=by
  have key:∀(k f:Nat),k≤db.length→k<f→∃o,iter (fun s=>wirelessref43_charOf_l1 F db s) f ((k:Int) - 1)=some o∧(o = .inl ()∧cho db k = -1∨o = .inr (cho db k)):=by
    intro k
    induction k with
    | zero=>
      intro f _ hf
      obtain⟨f,rfl⟩:∃g,f=g+1:=⟨f - 1,by omega⟩
      exact⟨.inl (),iter_stop (by
        unfold wirelessref43_charOf_l1
        rw [if_neg (by simp)]),.inl ⟨rfl,rfl⟩⟩
    | succ k ih=>
      intro f hk hf
      obtain⟨f,rfl⟩:∃g,f=g+1:=⟨f - 1,by omega⟩
      have hx:db[k]? = some db[k]:=List.getElem?_eq_getElem hk
      have e:((k+1:Nat):Int) - 1=(k:Int):=by omega
      rw [e]
      have hb:wirelessref43_charOf_l1 F db (k:Int)=(if isN db[k].f_Type 10243=true then some (.done (.inr (k:Int))) else if isv db[k].f_Type=true then some (.done (.inr (-1))) else some (.next ((k:Int) - 1))):=by
        unfold wirelessref43_charOf_l1
        rw [if_pos (dt (by omega)),idx_nat,hx,Option.bind_some,rIsChar,Option.bind_some,Option.bind_some,rIsService,Option.bind_some,w64_id (by omega) (by omega)]
      have hcho:cho db (k+1)=if isN db[k].f_Type 10243=true then (k:Int) else if isv db[k].f_Type=true then -1 else cho db k:=by
        simp only [cho,hx]
      by_cases hc:isN db[k].f_Type 10243=true
      · rw [if_pos hc] at hb hcho
        exact⟨_,iter_stop hb,.inr (by rw [hcho])⟩
      · rw [if_neg hc] at hb hcho
        by_cases hs:isv db[k].f_Type=true
        · rw [if_pos hs] at hb hcho
          exact⟨_,iter_stop hb,.inr (by rw [hcho])⟩
        · rw [if_neg hs] at hb hcho
          obtain⟨o,h1,h2⟩:=ih f (by omega) (by omega)
          exact⟨o,by rw [iter_step hb,h1],by rw [hcho]; exact h2⟩
  unfold wirelessref43_charOf
  obtain⟨o,h,h2⟩:=key (i+1) F (by omega) (by omega)
  rw [show ((i+1:Nat):Int) - 1=(i:Int) from by omega] at h
  rw [h,Option.bind_some]
  rcases h2 with ⟨rfl,h2⟩ | rfl
  · rw [h2]; rfl
  · rfl
theorem rconfig (F:Nat) {db:List T_Attribute} {i:Nat} {a:T_Attribute} (hi:db[i]? = some a) (hg:isN a.f_Type 10498=true) (hn:db.length≤9000000000000000) (hF:db.length+20<F):wirelessref43_configWrong F db i=some ((len a.Value != 2 || !(plc (db.take i)).char)||(plc (db.take i)).config):=by
  have hil:=(List.getElem?_eq_some_iff.1 hi).1
  unfold wirelessref43_configWrong
  rw [rcharOf F db i hil (by omega) hn,Option.bind_some,idx_nat,hi,Option.bind_some]
  obtain⟨h1,h2⟩:=conf_not hg
  have hc:cho db (i+1)=cho db i:=by
    simp only [cho,hi,h1,h2,Bool.false_eq_true,if_false]
  rw [hc]
  by_cases hl:(len a.Value != 2)=true
  · rw [hl,Bool.true_or,if_pos rfl]; rfl
  · rw [(Bool.not_eq_true _).mp hl,Bool.false_or,Bool.false_or]
    rcases cho_plc db i (by omega) with ⟨h3,h4⟩ | ⟨c,h0,h3,h4,h5⟩
    · rw [h3,h4,if_pos (by decide)]; rfl
    · rw [h3,h4,if_neg (df (by omega))]
      have:=iter_any (body:=fun s=>wirelessref43_configWrong_l1 F db i s) (l:=db.take i) (p:=fun a=>isN a.f_Type 10498) (o:=Sum.inr true) (e:=Sum.inl ()) (by
        intro k x hx
        have hkl:=(List.getElem?_eq_some_iff.1 hx).1
        rw [List.length_take] at hkl
        rw [List.getElem?_take,if_pos (by omega)] at hx
        show wirelessref43_configWrong_l1 F db i (k:Int)=_
        unfold wirelessref43_configWrong_l1
        rw [if_pos (dt (by omega)),idx_nat,hx,Option.bind_some,rIs F _ _ (by decide) (by decide),Option.bind_some,w64_nat k (by omega)]
        split <;> rfl) (by
        rw [List.length_take,Nat.min_eq_left (by omega)]
        show wirelessref43_configWrong_l1 F db i (i:Int)=_
        unfold wirelessref43_configWrong_l1
        rw [if_neg (df (by omega))]) F c (by rw [List.length_take]; omega) (by rw [List.length_take]; omega)
      rw [this,h5,Option.bind_some]
      cases (plc (db.take i)).config <;> rfl
theorem rcharWrong (F:Nat) {db:List T_Attribute} {i:Nat} {a:T_Attribute} (hi:db[i]? = some a) (hn:db.length≤9000000000000000) (ha:AOk a) (hF:20<F):wirelessref43_charWrong F db i=some (cw db i a):=by
  have hil:=(List.getElem?_eq_some_iff.1 hi).1
  unfold wirelessref43_charWrong cw
  rw [idx_nat,hi,Option.bind_some,rparts F ha.b hF,Option.bind_some,rkept]
  have hw:w64 ((i:Int)+1)=((i+1:Nat):Int):=w64_nat i (by omega)
  have hz:((if (!(prt a.Value).2.2.2)=true then some true else (some (resv (prt a.Value).2.2.1)).bind fun x_14=>some x_14):Option Bool)=some (!(prt a.Value).2.2.2||resv (prt a.Value).2.2.1):=by
    cases (prt a.Value).2.2.2 <;> rfl
  rw [hz,Option.bind_some,hw,idx_nat]
  by_cases hl:i+1<db.length
  · rw [List.getElem?_eq_getElem hl]
    simp only [Option.bind_some]
    by_cases hr:(!(prt a.Value).2.2.2||resv (prt a.Value).2.2.1)=true
    · rw [hr,Bool.true_or,if_pos rfl,Bool.true_or]
    · rw [(Bool.not_eq_true _).mp hr,Bool.false_or,if_neg (df (by rw [len_nat]; omega)),Bool.false_or]
      by_cases hh:(db[i+1].Handle != (prt a.Value).2.1)=true
      · rw [if_pos hh,hh]; rfl
      · rw [if_neg hh,(Bool.not_eq_true _).mp hh]; rfl
  · rw [List.getElem?_eq_none (by omega),if_pos (by
      rw [Bool.or_eq_true]
      exact .inr (dt (by rw [len_nat]; omega)))]
theorem rwrong (F:Nat) {db:List T_Attribute} {i:Nat} {a:T_Attribute} (hi:db[i]? = some a) (hn:db.length≤9000000000000000) (ha:AOk a) (hF:db.length+20<F):wirelessref43_wrong F db i=some (wrg db i (plc (db.take i)) a):=by
  unfold wirelessref43_wrong wrg
  rw [idx_nat,hi,Option.bind_some,rIsService,rdeclares]
  have hz:((if ((i:Int) == 0)=true then (some (isv a.f_Type)).bind fun x_25=>some !x_25 else some false):Option Bool)=some ((i:Int) == 0 && !isv a.f_Type):=by
    cases ((i:Int) == 0) <;> rfl
  rw [hz,Option.bind_some]
  have hz2:((if ((i:Int) == 0 && !isv a.f_Type)=true then some true else (some (decl a.f_Type)).bind fun x_22=>if x_22=true then some (iand IntKind.i64 a.Perms 2 != 0) else some false):Option Bool)=some (((i:Int) == 0 && !isv a.f_Type)||(decl a.f_Type&&(iand .i64 a.Perms 2 != 0))):=by
    cases ((i:Int) == 0 && !isv a.f_Type) <;> cases decl a.f_Type <;> rfl
  rw [hz2,Option.bind_some]
  by_cases hq:(((i:Int) == 0 && !isv a.f_Type)||(decl a.f_Type&&(iand .i64 a.Perms 2 != 0)))=true
  · rw [if_pos hq,if_pos hq]
  · rw [if_neg hq,if_neg hq,Option.bind_some]
    by_cases hs:isv a.f_Type=true
    · rw [if_pos hs,if_pos hs,rdecode F ha.b (by omega),Option.bind_some]
    · rw [if_neg hs,if_neg hs,rIsChar,Option.bind_some,rcharWrong F hi hn ha (by omega),rIs F _ _ (by decide) (by decide)]
      by_cases hc:isN a.f_Type 10243=true
      · rw [if_pos hc,if_pos hc,Option.bind_some,Option.bind_some,(char_not hc).2]
        cases cw db i a <;> rfl
      · rw [if_neg hc,if_neg hc,Option.bind_some,if_neg (by decide),Option.bind_some]
        by_cases hg:isN a.f_Type 10498=true
        · rw [if_pos hg,if_pos hg,rconfig F hi hg hn hF,Option.bind_some,Option.bind_some]
        · rw [if_neg hg,if_neg hg,Option.bind_some]
theorem check_same (F:Nat) (db:List T_Attribute) (hdb:∀a∈db,AOk a) (hn:db.length≤9000000000000000) (hF:db.length+20<F):∃e,database_Check F db=some e∧wirelessref43_Check F db=some e:=by
  unfold database_Check wirelessref43_Check
  by_cases hl:len db > 1000
  · rw [if_pos (dt hl),if_pos (dt hl)]
    exact⟨_,rfl,rfl⟩
  · rw [if_neg (df hl),if_neg (df hl)]
    obtain⟨o1,o2,h1,h2,h3⟩:=iter_sim (b1:=fun s:Int×T_database_place×Int=>database_Check_l1 F db s.1 s.2.1 s.2.2) (b2:=fun s:Int×Int=>wirelessref43_Check_l1 F db s.1 s.2)
      (fun s t=>∃i:Nat,i≤db.length∧s=(t.1,plc (db.take i),(i:Int))∧t.2=(i:Int)) (fun a b=>a=b) (fun s=>db.length - s.2.2.toNat) (by
      rintro s ⟨last,x⟩ ⟨i,hi,rfl,hx⟩
      simp only at hx
      subst hx
      show (∃t1 t2,database_Check_l1 F db last (plc (db.take i)) (i:Int)=some (.next t1)∧wirelessref43_Check_l1 F db last (i:Int)=some (.next t2)∧_)∨∃o1 o2,database_Check_l1 F db last (plc (db.take i)) (i:Int)=some (.done o1)∧wirelessref43_Check_l1 F db last (i:Int)=some (.done o2)∧_
      unfold database_Check_l1 wirelessref43_Check_l1
      by_cases hin:i<db.length
      · have hxa:db[i]? = some db[i]:=List.getElem?_eq_getElem hin
        have ha:=hdb _ (List.getElem_mem hin)
        generalize hq:db[i]=a at hxa ha
        rw [if_pos (dt (show (i:Int)<len db by rw [len_nat]; omega)),if_pos (dt (show (i:Int)<len db by rw [len_nat]; omega)),idx_nat,hxa]
        simp only [Option.bind_some]
        by_cases h1:a.Handle≤last
        · rw [if_pos (dt h1),if_pos (dt h1)]
          exact .inr ⟨_,_,rfl,rfl,rfl⟩
        · rw [if_neg (df h1),if_neg (df h1)]
          have hp:((if decide (a.Perms<0)=true then some true else some (decide (a.Perms > 15))):Option Bool)=some (decide (a.Perms<0)||decide (a.Perms > 15)):=by
            cases decide (a.Perms<0) <;> rfl
          rw [hp,Option.bind_some]
          by_cases h2:(decide (a.Perms<0)||decide (a.Perms > 15))=true
          · rw [if_pos h2,if_pos h2]
            exact .inr ⟨_,_,rfl,rfl,rfl⟩
          · rw [if_neg h2,if_neg h2]
            by_cases h3:len a.Value > 512
            · rw [if_pos (dt h3),if_pos (dt h3)]
              exact .inr ⟨_,_,rfl,rfl,rfl⟩
            · rw [if_neg (df h3),if_neg (df h3),uwrong F _ hxa hn ha (by omega),rwrong F hxa hn ha hF,Option.bind_some,Option.bind_some]
              by_cases h4:wrg db i (plc (db.take i)) a=true
              · rw [if_pos h4,if_pos h4]
                exact .inr ⟨_,_,rfl,rfl,rfl⟩
              · rw [if_neg h4,if_neg h4,service_ok F ha.u (by omega),is1 F ha.u 10243 (by omega) (by decide) (by decide),is1 F ha.u 10498 (by omega) (by decide) (by decide)]
                simp only [Option.bind_some]
                have ht:plc (db.take (i+1))=stepP (plc (db.take i)) a.f_Type:=by
                  rw [List.take_add_one,hxa]
                  exact plc_snoc _ _
                have hw:=w64_nat i (by omega)
                refine .inl ⟨(a.Handle,plc (db.take (i+1)),((i+1:Nat):Int)),(a.Handle,((i+1:Nat):Int)),?_,by rw [hw],⟨i+1,by omega,rfl,rfl⟩,by simp only; omega⟩
                rw [ht]
                unfold stepP database_Check_j2
                rw [hw]
                split
                · rfl
                · split
                  · rfl
                  · split <;> rfl
      · rw [if_neg (df (show ¬ (i:Int)<len db by rw [len_nat]; omega)),if_neg (df (show ¬ (i:Int)<len db by rw [len_nat]; omega))]
        exact .inr ⟨_,_,rfl,rfl,rfl⟩) F (0,T_database_place.mk false false,0) (0,0) ⟨0,by omega,rfl,rfl⟩ (by simp only; omega)
    rw [h1,h2,h3]
    simp only [Option.bind_some]
    cases o2 with
    | inl u=>exact⟨_,rfl,rfl⟩
    | inr e=>exact⟨_,rfl,rfl⟩
end V
end Go.Proofs.YtoahakdkgefgiaaGreat

namespace Go.Proofs.YtoahakdkgefgiaaGreat
namespace V
def fnd (db:List T_Attribute) (h:Int):Int:=match db.findIdx? (fun a=>a.Handle == h) with
  | some k=>(k:Int)
  | none=>-1
theorem ufind (F:Nat) (db:List T_Attribute) (h:Int) (hn:db.length≤9000000000000000) (hF:db.length<F):database_Find F db h=some (fnd db h):=by
  unfold database_Find slices_IndexFunc_api_Attribute_api_Attribute_at87
  have:=iter_find (body:=fun s:Int×Int=>slices_IndexFunc_api_Attribute_api_Attribute_at87_l1 F db s.1 s.2) (fun i=>(h,(i:Int))) (l:=db) (p:=fun a=>a.Handle == h) (g:=fun k=>Sum.inr ((k:Int),h)) (e:=Sum.inl h) (by
    intro i x hx
    have hi:=(List.getElem?_eq_some_iff.1 hx).1
    show slices_IndexFunc_api_Attribute_api_Attribute_at87_l1 F db h (i:Int)=_
    unfold slices_IndexFunc_api_Attribute_api_Attribute_at87_l1 database_Find_1
    rw [if_pos (dt (by rw [len_nat]; omega)),idx_nat,hx,Option.bind_some,Option.bind_some,w64_nat i (by omega)]
    simp only
    split <;> rfl) (by
    show slices_IndexFunc_api_Attribute_api_Attribute_at87_l1 F db h _=_
    unfold slices_IndexFunc_api_Attribute_api_Attribute_at87_l1
    rw [if_neg (df (by rw [len_nat]; omega))]) F 0 (by omega) (by omega)
  rw [show ((0:Nat):Int)=0 from rfl] at this
  rw [this,Option.bind_some,List.drop_zero]
  unfold fnd
  cases db.findIdx? (fun a=>a.Handle == h) with
  | none=>rfl
  | some k=>simp
theorem sameDB (F:Nat) (db:List T_Attribute) (hn:db.length≤9000000000000000) (hF:db.length<F):wirelessref43_SameDB F db db=some true:=by
  unfold wirelessref43_SameDB
  rw [if_neg (by simp)]
  have:=iter_count (body:=fun s:Int=>wirelessref43_SameDB_l1 F db db s) (fun i=>(i:Int)) db.length (.inl ()) (by
    intro i hi
    have hx:db[i]? = some db[i]:=List.getElem?_eq_getElem hi
    show wirelessref43_SameDB_l1 F db db (i:Int)=_
    unfold wirelessref43_SameDB_l1
    rw [if_pos (dt (by rw [len_nat]; omega)),idx_nat,hx]
    simp only [Option.bind_some]
    rw [if_neg (by simp),if_neg (by simp),if_neg (by simp),same_refl,Option.bind_some]
    unfold wirelessref43_SameDB_j2
    rw [if_neg (by decide),w64_nat i (by omega)]) (by
    show wirelessref43_SameDB_l1 F db db _=_
    unfold wirelessref43_SameDB_l1
    rw [if_neg (df (by rw [len_nat]; omega))]) F 0 (by omega) (by omega)
  rw [show ((0:Nat):Int)=0 from rfl] at this
  rw [this]
  rfl
structure Good (db:List T_Attribute):Prop where
  g:∀(i:Nat) a,db[i]? = some a→0≤a.Perms∧a.Perms≤15∧a.Value.length≤512∧wrg db i (plc (db.take i)) a=false
theorem rcheck_all (F:Nat) (db:List T_Attribute) (hdb:∀a∈db,AOk a) (hn:db.length≤9000000000000000) (hF:db.length+20<F) (h:wirelessref43_Check F db=some 0):Good db:=by
  unfold wirelessref43_Check at h
  by_cases hl:len db > 1000
  · rw [if_pos (dt hl)] at h; cases h
  · rw [if_neg (df hl)] at h
    obtain⟨o,h1,h2⟩:=iter_by (body:=fun s:Int×Int=>wirelessref43_Check_l1 F db s.1 s.2)
      (fun s=>∃i:Nat,s.2=(i:Int)∧i≤db.length∧∀j a,j<i→db[j]? = some a→0≤a.Perms∧a.Perms≤15∧a.Value.length≤512∧wrg db j (plc (db.take j)) a=false)
      (fun o=>(∀e,o = .inr e→e≠0)∧(o = .inl ()→Good db)) (fun s=>db.length - s.2.toNat) (by
      rintro⟨last,x⟩ ⟨i,hx,hi,hp⟩
      simp only at hx
      subst hx
      show (∃s',wirelessref43_Check_l1 F db last (i:Int)=some (.next s')∧_)∨∃o,wirelessref43_Check_l1 F db last (i:Int)=some (.done o)∧_
      unfold wirelessref43_Check_l1
      by_cases hin:i<db.length
      · have hxa:db[i]? = some db[i]:=List.getElem?_eq_getElem hin
        have ha:=hdb _ (List.getElem_mem hin)
        generalize hq:db[i]=a at hxa ha
        rw [if_pos (dt (show (i:Int)<len db by rw [len_nat]; omega)),idx_nat,hxa]
        simp only [Option.bind_some]
        by_cases h1:a.Handle≤last
        · rw [if_pos (dt h1)]
          exact .inr ⟨_,rfl,(fun e h=>by injection h with h; subst h; decide),fun h=>by cases h⟩
        · rw [if_neg (df h1)]
          have hp2:((if decide (a.Perms<0)=true then some true else some (decide (a.Perms > 15))):Option Bool)=some (decide (a.Perms<0)||decide (a.Perms > 15)):=by
            cases decide (a.Perms<0) <;> rfl
          rw [hp2,Option.bind_some]
          by_cases h2:(decide (a.Perms<0)||decide (a.Perms > 15))=true
          · rw [if_pos h2]
            exact .inr ⟨_,rfl,(fun e h=>by injection h with h; subst h; decide),fun h=>by cases h⟩
          · rw [if_neg h2]
            by_cases h3:len a.Value > 512
            · rw [if_pos (dt h3)]
              exact .inr ⟨_,rfl,(fun e h=>by injection h with h; subst h; decide),fun h=>by cases h⟩
            · rw [if_neg (df h3),rwrong F hxa hn ha hF,Option.bind_some]
              by_cases h4:wrg db i (plc (db.take i)) a=true
              · rw [if_pos h4]
                exact .inr ⟨_,rfl,(fun e h=>by injection h with h; subst h; decide),fun h=>by cases h⟩
              · rw [if_neg h4]
                rw [len_nat] at h3
                simp only [Bool.or_eq_true,decide_eq_true_eq] at h2
                refine .inl ⟨_,rfl,⟨i+1,by simp only; exact w64_nat i (by omega),by omega,?_⟩,by simp only; rw [w64_nat i (by omega)]; omega⟩
                intro j c hj hc
                by_cases hji:j<i
                · exact hp j c hji hc
                · have:j=i:=by omega
                  subst this
                  rw [hxa] at hc
                  injection hc with hc
                  subst hc
                  exact⟨by omega,by omega,by omega,(Bool.not_eq_true _).mp h4⟩
      · rw [if_neg (df (show ¬ (i:Int)<len db by rw [len_nat]; omega))]
        refine .inr ⟨_,rfl,(fun e h=>by cases h),fun _=>⟨fun j c hc=>hp j c ?_ hc⟩⟩
        have:=(List.getElem?_eq_some_iff.1 hc).1
        omega) F (0,0) ⟨0,rfl,by omega,by intro j a hj; omega⟩ (by simp only; omega)
    rw [h1,Option.bind_some] at h
    cases o with
    | inl u=>exact h2.2 rfl
    | inr e=>
      simp only [Option.some.injEq] at h
      exact absurd h (h2.1 e rfl)
theorem char_prt {db:List T_Attribute} (hg:Good db) {a:T_Attribute} (ha:a∈db) (hc:isN a.f_Type 10243=true):(prt a.Value).2.2.2=true:=by
  obtain⟨i,hi⟩:=List.getElem?_of_mem ha
  obtain⟨_,_,_,h⟩:=hg.g i a hi
  unfold wrg at h
  rw [(char_not hc).1,hc] at h
  by_cases h1:(((i:Int) == 0 && !false)||(decl a.f_Type&&(iand .i64 a.Perms 2 != 0)))=true
  · rw [if_pos h1] at h; cases h
  · rw [if_neg h1,if_neg (by decide),if_pos rfl] at h
    unfold cw at h
    cases hn:db[i+1]? with
    | none=>rw [hn] at h; cases h
    | some b=>
      rw [hn] at h
      simp only [Bool.or_eq_false_iff,Bool.not_eq_false'] at h
      exact h.1.1
end V
end Go.Proofs.YtoahakdkgefgiaaGreat

namespace Go.Proofs.YtoahakdkgefgiaaGreat
namespace V
theorem sis (F:Nat) (u:T_UUID) (n:Int) (h0:0≤n) (h1:n<65536):server_is F u n=some (isN u n):=by
  unfold server_is
  rw [ushort F n h0 h1,Option.bind_some]
  rfl
def free (db:List T_Attribute) (i k:Nat):Prop:=∀(j:Nat) b,i<j→j<k→db[j]? = some b→isv b.f_Type=false∧isN b.f_Type 10243=false
def conf (db:List T_Attribute) (j:Nat):Prop:=∃b,db[j]? = some b∧isN b.f_Type 10498=true
def chr (db:List T_Attribute) (c:Nat) (a:T_Attribute):Prop:=db[c]? = some a∧isN a.f_Type 10243=true
theorem prt3 {b:List Int} (h:(prt b).2.2.2=true):¬ b.length<3:=by
  intro h3
  unfold prt at h
  rw [if_pos h3] at h
  cases h
theorem uowner (F:Nat) {db:List T_Attribute} (hdb:∀a∈db,AOk a) (hg:Good db) (i:Nat) (hi:i<db.length) (hn:db.length≤9000000000000000) (hF:db.length+5<F):(cho db (i+1) = -1∧server_owner F db i=some (0,0,false))∨∃c a,cho db (i+1)=((c:Nat):Int)∧chr db c a∧server_owner F db i=some ((prt a.Value).1,(prt a.Value).2.1,true):=by
  have key:∀(k f:Nat),k≤db.length→k<f→(cho db k = -1∧iter (fun s=>server_owner_l1 F db s) f ((k:Int) - 1)=some (.inl ()))∨∃c a,cho db k=((c:Nat):Int)∧chr db c a∧iter (fun s=>server_owner_l1 F db s) f ((k:Int) - 1)=some (.inr ((prt a.Value).1,(prt a.Value).2.1,true)):=by
    intro k
    induction k with
    | zero=>
      intro f _ hf
      match f,hf with
      | f+1,_=>
      refine .inl ⟨rfl,iter_stop ?_⟩
      show server_owner_l1 F db _=_
      unfold server_owner_l1
      rw [if_neg (df (by omega))]
      rfl
    | succ k ih=>
      intro f hk hf
      match f,hf with
      | f+1,hf=>
      have hx:db[k]? = some db[k]:=List.getElem?_eq_getElem (by omega)
      have ha:=hdb _ (List.getElem_mem (show k<db.length by omega))
      have hm:=List.getElem_mem (show k<db.length by omega)
      generalize hq:db[k]=a at hx ha hm
      rw [show ((k+1:Nat):Int) - 1=(k:Int) from by omega]
      have hcho:cho db (k+1)=if isN a.f_Type 10243=true then (k:Int) else if isv a.f_Type=true then -1 else cho db k:=by simp only [cho,hx]
      have hb:server_owner_l1 F db (k:Int)=if isv a.f_Type=true then some (.done (.inl ())) else if isN a.f_Type 10243=true then some (.done (.inr ((prt a.Value).1,(prt a.Value).2.1,true))) else some (.next ((k:Int) - 1)):=by
        unfold server_owner_l1
        rw [if_pos (dt (by omega)),idx_nat,hx]
        simp only [Option.bind_some]
        rw [sis F _ _ (by decide) (by decide),sis F _ _ (by decide) (by decide),sis F _ _ (by decide) (by decide)]
        simp only [Option.bind_some]
        unfold isv
        cases h1:isN a.f_Type 10240 with
        | true=>rfl
        | false=>
        cases h2:isN a.f_Type 10241 with
        | true=>rfl
        | false=>
        cases h3:isN a.f_Type 10243 with
        | false=>
          show some (Out.next (w64 ((k:Int) - 1)))=some (.next ((k:Int) - 1))
          rw [w64_id (by omega) (by omega)]
        | true=>
          have hl:=prt3 (char_prt hg hm h3)
          simp only [Bool.not_false,if_true,Bool.true_and,Bool.or_self,Bool.false_eq_true,if_false]
          rw [if_pos (dt (show len a.Value > 2 by rw [len_nat]; omega))]
          match hv:a.Value,hl,ha.b with
          | x::y::z::r,_,hb=>
            obtain⟨x0,x1⟩:=hb x (by simp)
            have hy:=hb y (by simp)
            have hz:=hb z (by simp)
            rw [show idx (x::y::z::r) 0=some x from rfl,show idx (x::y::z::r) 1=some y from rfl,show idx (x::y::z::r) 2=some z from rfl,Option.bind_some,if_pos rfl]
            simp only [Option.bind_some]
            rw [word16 hy hz,w64_id (by omega) (by omega)]
            unfold server_owner_j2 prt
            rw [if_neg (by simp)]
            simp [num]
          | [],h,_=>exact absurd (by simp) h
          | [_],h,_=>exact absurd (by simp) h
          | [_,_],h,_=>exact absurd (by simp) h
      by_cases hc:isN a.f_Type 10243=true
      · rw [if_pos hc,(char_not hc).1,if_neg (by decide)] at hb
        rw [if_pos hc] at hcho
        exact .inr ⟨k,a,hcho,⟨hx,hc⟩,iter_stop hb⟩
      · rw [if_neg hc] at hcho hb
        by_cases hs:isv a.f_Type=true
        · rw [if_pos hs] at hb hcho
          exact .inl ⟨hcho,iter_stop hb⟩
        · rw [if_neg hs] at hb hcho
          rw [hcho,iter_step hb]
          exact ih f (by omega) (by omega)
  unfold server_owner
  rcases key (i+1) F (by omega) (by omega) with ⟨h1,h2⟩ | ⟨c,a,h1,h2,h3⟩
  · rw [show ((i+1:Nat):Int) - 1=(i:Int) from by omega] at h2
    refine .inl ⟨h1,?_⟩
    rw [h2]; rfl
  · rw [show ((i+1:Nat):Int) - 1=(i:Int) from by omega] at h3
    refine .inr ⟨c,a,h1,h2,?_⟩
    rw [h3]; rfl
def bt (p:Int):Int:=(if iand .i64 p 16 != 0 then 1 else 0)+(if iand .i64 p 32 != 0 then 2 else 0)
theorem ubits (F:Nat) (p:Int):server_bits F p=some (bt p):=by
  unfold server_bits bt server_bits_j1 server_bits_j2
  by_cases h1:(iand .i64 p 16 != 0)=true
  · rw [if_pos h1,if_pos h1]
    by_cases h2:(iand .i64 p 32 != 0)=true
    · rw [if_pos h2,if_pos h2]; rfl
    · rw [if_neg h2,if_neg h2]; rfl
  · rw [if_neg h1,if_neg h1]
    by_cases h2:(iand .i64 p 32 != 0)=true
    · rw [if_pos h2,if_pos h2]; rfl
    · rw [if_neg h2,if_neg h2]; rfl
def hit (db:List T_Attribute) (h:Int) (j c:Nat) (a:T_Attribute):Prop:=conf db j∧cho db (j+1)=(c:Int)∧chr db c a∧(prt a.Value).2.1=h
theorem usub (F:Nat) {db:List T_Attribute} (hdb:∀a∈db,AOk a) (hg:Good db) (h:Int) (hn:db.length≤9000000000000000) (hF:db.length+5<F):(server_subscribable F db h=some (0,false)∧∀j c a,¬ hit db h j c a)∨∃j c a,hit db h j c a∧server_subscribable F db h=some (bt (prt a.Value).1,true):=by
  obtain⟨o,h1,h2⟩:=iter_by (body:=fun s:Int=>server_subscribable_l1 F db h s) (fun s=>∃i:Nat,s=(i:Int)∧i≤db.length∧∀j c a,j<i→¬ hit db h j c a)
    (fun o=>(o = .inl ()∧∀j c a,¬ hit db h j c a)∨∃j c a,hit db h j c a∧o = .inr (bt (prt a.Value).1,true)) (fun s=>db.length - s.toNat) (by
    rintro s ⟨i,rfl,hi,hno⟩
    show (∃s',server_subscribable_l1 F db h (i:Int)=some (.next s')∧_)∨∃o,server_subscribable_l1 F db h (i:Int)=some (.done o)∧_
    unfold server_subscribable_l1
    by_cases hin:i<db.length
    · have hx:db[i]? = some db[i]:=List.getElem?_eq_getElem hin
      generalize hq:db[i]=a at hx
      rw [if_pos (dt (show (i:Int)<len db by rw [len_nat]; omega)),idx_nat,hx,Option.bind_some,sis F _ _ (by decide) (by decide),Option.bind_some]
      have hnext:(∀c b,¬ hit db h i c b)→(∃s',server_subscribable_j2 F (i:Int)=some (.next s')∧(∃i:Nat,s'=(i:Int)∧i≤db.length∧∀j c a,j<i→¬ hit db h j c a)∧db.length - s'.toNat<db.length - (i:Int).toNat):=by
        intro hq
        refine ⟨_,rfl,⟨i+1,w64_nat i (by omega),by omega,fun j c b hj=>?_⟩,by rw [w64_nat i (by omega)]; omega⟩
        by_cases hji:j<i
        · exact hno j c b hji
        · have:j=i:=by omega
          subst this
          exact hq c b
      cases hc:isN a.f_Type 10498 with
      | false=>
        refine .inl (hnext fun c b hh=>?_)
        obtain⟨⟨d,hd,hd2⟩,_⟩:=hh
        rw [hx] at hd
        injection hd with hd
        rw [← hd,hc] at hd2
        cases hd2
      | true=>
        rw [if_neg (by decide)]
        rcases uowner F hdb hg i hin hn hF with ⟨g1,g2⟩ | ⟨c,b,g1,g2,g3⟩
        · rw [g2,Option.bind_some]
          refine .inl (hnext fun c b hh=>?_)
          have:=hh.2.1
          omega
        · rw [g3,Option.bind_some]
          by_cases hv:(prt b.Value).2.1=h
          · rw [if_pos (by simp [hv]),ubits,Option.bind_some]
            exact .inr ⟨_,rfl,.inr ⟨i,c,b,⟨⟨a,hx,hc⟩,g1,g2,hv⟩,rfl⟩⟩
          · rw [if_neg (by simp [hv])]
            refine .inl (hnext fun c' b' hh=>hv ?_)
            have e:c'=c:=by have:=hh.2.1; omega
            subst e
            have:=hh.2.2.1.1
            rw [g2.1] at this
            injection this with this
            rw [this]
            exact hh.2.2.2
    · rw [if_neg (df (show ¬ (i:Int)<len db by rw [len_nat]; omega))]
      refine .inr ⟨_,rfl,.inl ⟨rfl,fun j c a hh=>?_⟩⟩
      obtain⟨⟨d,hd,_⟩,_⟩:=id hh
      have:=(List.getElem?_eq_some_iff.1 hd).1
      exact hno j c a (by omega) hh) F 0 ⟨0,rfl,by omega,by intro j c a hj; omega⟩ (by simp; omega)
  unfold server_subscribable
  rcases h2 with ⟨rfl,h2⟩ | ⟨j,c,a,h2,rfl⟩
  · refine .inl ⟨?_,h2⟩
    rw [h1]; rfl
  · refine .inr ⟨j,c,a,h2,?_⟩
    rw [h1]; rfl
theorem fnd_cases (db:List T_Attribute) (h:Int):fnd db h = -1∨∃k:Nat,fnd db h=(k:Int)∧k<db.length:=by
  unfold fnd
  cases he:db.findIdx? (fun a=>a.Handle == h) with
  | none=>exact .inl rfl
  | some k=>exact .inr ⟨k,rfl,(List.findIdx?_eq_some_iff_getElem.1 he).1⟩
end V
end Go.Proofs.YtoahakdkgefgiaaGreat

namespace Go.Proofs.YtoahakdkgefgiaaGreat
namespace V
structure SbOk (s:T_Subscription):Prop where
  h0:0≤s.Handle
  h1:s.Handle<65536
  b0 : -9223372036854775808≤s.Bits
  b1:s.Bits<9223372036854775808
theorem app_k {α:Type} {k:Nat} {l m:List α} (hk:k≤1000) (h:l.length+m.length≤100000000000):app k l m=some (l++m):=by
  unfold app
  have:(l.length+m.length) * k≤100000000000 * 1000:=Nat.mul_le_mul h hk
  rw [if_pos ⟨by omega,by omega⟩]
theorem uattrs (F:Nat) (db:List T_Attribute) (hv:∀a∈db,a.Value.length≤140737488355328) (hn:db.length≤10000000) (hF:db.length+5<F):server_attributes F db=some db:=by
  unfold server_attributes
  have:=iter_count (body:=fun s:List T_Attribute×Int=>server_attributes_l1 F db s.1 s.2) (fun i=>(db.take i,(i:Int))) db.length db (by
    intro i hi
    have hx:db[i]? = some db[i]:=List.getElem?_eq_getElem hi
    have hm:=hv _ (List.getElem_mem hi)
    have hq:({ db[i] with Value:=db[i].Value }:T_Attribute)=db[i]:=by cases db[i]; rfl
    show server_attributes_l1 F db (db.take i) (i:Int)=_
    unfold server_attributes_l1
    rw [if_pos (dt (by rw [len_nat]; omega)),idx_nat,hx,Option.bind_some,join_one F _ (by omega) hm,Option.bind_some,app_k (by decide) (by simp; omega),Option.bind_some,w64_nat i (by omega),List.take_add_one,hx]
    rfl) (by
    show server_attributes_l1 F db (db.take db.length) (db.length:Int)=_
    unfold server_attributes_l1
    rw [if_neg (df (by rw [len_nat]; omega)),List.take_length]) F 0 (by omega) (by omega)
  rw [show (([],0):List T_Attribute×Int)=(db.take 0,((0:Nat):Int)) from rfl,this]
  rfl
theorem sameSubs (F:Nat) (l:List T_Subscription) (hn:l.length≤9000000000000000) (hF:l.length<F):wirelessref45_SameSubs F l l=some true:=by
  unfold wirelessref45_SameSubs
  rw [if_neg (by simp)]
  have:=iter_count (body:=fun s:Int=>wirelessref45_SameSubs_l1 F l l s) (fun i=>(i:Int)) l.length (.inl ()) (by
    intro i hi
    have hx:l[i]? = some l[i]:=List.getElem?_eq_getElem hi
    show wirelessref45_SameSubs_l1 F l l (i:Int)=_
    unfold wirelessref45_SameSubs_l1
    rw [if_pos (dt (by rw [len_nat]; omega)),idx_nat,hx]
    simp only [Option.bind_some]
    unfold wirelessref45_SameSubs_j2
    rw [if_neg (by simp),w64_nat i (by omega)]) (by
    show wirelessref45_SameSubs_l1 F l l _=_
    unfold wirelessref45_SameSubs_l1
    rw [if_neg (df (by rw [len_nat]; omega))]) F 0 (by omega) (by omega)
  rw [show ((0:Nat):Int)=0 from rfl] at this
  rw [this]
  rfl
def mkS (db:List T_Attribute) (mx lv:Int) (rb:Bool) (aw:Int) (subs:List T_Subscription):T_Server:=T_Server.mk db 23 mx lv [] aw rb subs [] false 0
theorem uclone (F:Nat) (l:List T_Subscription) (hn:l.length≤10000000):slices_Clone_api_Subscription_api_Subscription F l=some l:=by
  unfold slices_Clone_api_Subscription_api_Subscription
  rw [app_k (by decide) (by simp; omega),Option.bind_some,List.nil_append]
theorem example_ok:wirelesslaw45_exampleHolds FF=some true:=by kernel_rfl
theorem light_ok (F:Nat) (db:List T_Attribute) (hn:db.length≤9000000000000000) (hF:100<F):∃b,wirelesslaw45_light F db=some b∧(b=true→db.length≤80∧∀a∈db,a.Value.length≤4096):=by
  unfold wirelesslaw45_light
  obtain⟨o,h1,h2⟩:=iter_by (body:=fun s:Int×Int=>wirelesslaw45_light_l1 F db s.1 s.2) (fun s=>∃i:Nat,s.2=(i:Int)∧i≤db.length∧i≤80∧∀a∈db.take i,a.Value.length≤4096)
    (fun o=>(∃n,o = .inl n∧∀a∈db.take 80,a.Value.length≤4096)∨o = .inr false) (fun s=>80 - s.2.toNat) (by
    rintro⟨n,x⟩ ⟨i,hx,hi,hi2,hall⟩
    simp only at hx
    subst hx
    show (∃s',wirelesslaw45_light_l1 F db n (i:Int)=some (.next s')∧_)∨∃o,wirelesslaw45_light_l1 F db n (i:Int)=some (.done o)∧_
    unfold wirelesslaw45_light_l1
    by_cases hin:i<db.length∧i<80
    · have hxa:db[i]? = some db[i]:=List.getElem?_eq_getElem hin.1
      generalize hq:db[i]=a at hxa
      rw [if_pos (by rw [dt (show (i:Int)<len db by rw [len_nat]; omega),dt (show (i:Int)<80 by omega)]; rfl),idx_nat,hxa]
      simp only [Option.bind_some]
      by_cases hv:len a.Value > 4096
      · rw [if_pos (dt hv)]
        exact .inr ⟨_,rfl,.inr rfl⟩
      · rw [if_neg (df hv)]
        rw [len_nat] at hv
        refine .inl ⟨_,rfl,⟨i+1,?_,by omega,by omega,?_⟩,?_⟩
        · simp only; exact w64_nat i (by omega)
        · intro c hc
          rw [List.take_add_one,hxa] at hc
          rcases List.mem_append.1 hc with hc | hc
          · exact hall c hc
          · simp at hc; subst hc; omega
        · simp only; rw [w64_nat i (by omega)]; omega
    · rw [if_neg (by
        rw [Bool.and_eq_true]
        rintro⟨h1,h2⟩
        have h1:=of_decide_eq_true h1
        have h2:=of_decide_eq_true h2
        rw [len_nat] at h1
        omega)]
      refine .inr ⟨_,rfl,.inl ⟨_,rfl,fun a ha=>hall a ?_⟩⟩
      have e:db.take 80=db.take i:=by
        by_cases h:i<db.length
        · rw [show i=80 from by omega]
        · rw [List.take_of_length_le (by omega),List.take_of_length_le (by omega)]
      rwa [e] at ha) F (0,0) ⟨0,rfl,by omega,by omega,by simp⟩ (by simp only; omega)
  rw [h1,Option.bind_some]
  rcases h2 with ⟨n,rfl,h3⟩ | rfl
  · refine ⟨_,rfl,fun hb=>?_⟩
    simp only [Bool.and_eq_true] at hb
    have h4:=of_decide_eq_true hb.1
    rw [len_nat] at h4
    refine ⟨by omega,fun a ha=>h3 a ?_⟩
    rwa [List.take_of_length_le (by omega)]
  · exact⟨false,rfl,fun h=>by cases h⟩
end V
end Go.Proofs.YtoahakdkgefgiaaGreat

namespace Go.Proofs.YtoahakdkgefgiaaGreat
namespace V
theorem rput_step (F:Nat) (size n i:Int) (l:List Int) (h0:0≤n) (h1:n<18446744073709551616) (hl:l.length≤1000000) (hi:0≤i∧i<1000) (hs:i<size):wirelessref23_Put_l1 F size n l i=some (.next (n / 256,l++[n % 256],i+1)):=by
  unfold wirelessref23_Put_l1
  rw [if_pos (by simpa using hs)]
  simp only [remp,quop,tmod256 h0,tdiv256 h0,wrap_u64]
  rw [wu8_id (by omega) (by omega),app_cat (by simp; omega)]
  simp only [Option.bind_some]
  rw [wu64_id (by omega) (by omega),w64_id (by omega) (by omega)]
theorem rput_ok (F:Nat) (n:Int) (k:Nat) (hF:k<F) (hk:k≤8) (h0:0≤n) (h1:n<18446744073709551616):wirelessref23_Put F n k=some (leb k n):=by
  have gen:∀(m F:Nat) (n i:Int) (l:List Int),0≤n→n<18446744073709551616→l.length≤1000 - m→m≤8→0≤i→i+m=k→m<F→iter (fun s=>wirelessref23_Put_l1 F (k:Int) s.1 s.2.1 s.2.2) F (n,l,i)=some (l++leb m n):=by
    intro m
    intro F
    have key:∀(m f:Nat) (n i:Int) (l:List Int),0≤n→n<18446744073709551616→l.length≤1000 - m→m≤8→0≤i→i+m=k→m<f→iter (fun s=>wirelessref23_Put_l1 F (k:Int) s.1 s.2.1 s.2.2) f (n,l,i)=some (l++leb m n):=by
      intro m
      induction m with
      | zero=>
        intro f n i l h0 h1 hl hm hi hik hf
        cases f with
        | zero=>omega
        | succ f=>
          rw [iter_stop (o:=l) (by unfold wirelessref23_Put_l1; rw [if_neg (by simp; omega)])]
          simp [leb]
      | succ m ih=>
        intro f n i l h0 h1 hl hm hi hik hf
        cases f with
        | zero=>omega
        | succ f=>
          rw [iter_step (rput_step F k n i l h0 h1 (by omega) (by omega) (by omega)),ih f (n / 256) (i+1) (l++[n % 256]) (by omega) (by omega) (by simp; omega) (by omega) (by omega) (by omega) (by omega)]
          simp [leb]
    exact key m F
  unfold wirelessref23_Put
  rw [gen k F n 0 [] h0 h1 (by simp) hk (by omega) (by omega) hF]
  simp [wirelessref23_Put_j1]
end V
end Go.Proofs.YtoahakdkgefgiaaGreat

namespace Go.Proofs.YtoahakdkgefgiaaGreat
namespace V
def encU (u:T_UUID):List Int:=if (numb u).2=true then leb 2 (numb u).1 else leb 8 u.Low++leb 8 u.High
theorem numb_rng {u:T_UUID} (hu:UOk u):0≤(numb u).1∧(numb u).1<65536:=by
  obtain⟨h0,h1,_,_⟩:=hu
  unfold numb
  by_cases h:u.Low=9223372588214596859∧u.High % 4294967296=4096∧u.High / 4294967296<65536
  · rw [if_pos h]
    simp only
    omega
  · rw [if_neg h]
    simp
theorem rencode (F:Nat) {u:T_UUID} (hu:UOk u) (hF:20<F):wirelessref41_Encode F u=some (encU u):=by
  unfold wirelessref41_Encode encU
  rw [rnumber F hu,Option.bind_some]
  have hr:=numb_rng hu
  obtain⟨h0,h1,l0,l1⟩:=hu
  by_cases h:(numb u).2=true
  · rw [if_pos h,if_pos h,wu64_id hr.1 (by omega)]
    have:=rput_ok F (numb u).1 2 (by omega) (by omega) hr.1 (by omega)
    rw [show ((2:Nat):Int)=2 from rfl] at this
    rw [this,Option.bind_some]
  · rw [if_neg h,if_neg h]
    have p1:=rput_ok F u.Low 8 (by omega) (by omega) l0 l1
    have p2:=rput_ok F u.High 8 (by omega) (by omega) h0 h1
    rw [show ((8:Nat):Int)=8 from rfl] at p1 p2
    rw [p1,p2,Option.bind_some,Option.bind_some,app_cat (by rw [leb_length,leb_length]; decide),Option.bind_some]
    rfl
theorem encU_len (u:T_UUID):(encU u).length≤16:=by
  unfold encU
  by_cases h:(numb u).2=true
  · rw [if_pos h,leb_length]; decide
  · rw [if_neg h,List.length_append,leb_length,leb_length]; decide
end V
end Go.Proofs.YtoahakdkgefgiaaGreat

namespace Go.Proofs.YtoahakdkgefgiaaGreat
namespace V
theorem iter_fold2 {S O α β:Type} {body:S→Option (Out S O)} (l:List α) (f:β→α→β) (st:β→Nat→S) (o:β→O) (I:Nat→β→Prop)
    (h:∀(i:Nat) x b,l[i]? = some x→I i b→body (st b i)=some (.next (st (f b x) (i+1)))∧I (i+1) (f b x))
    (hd:∀b,I l.length b→body (st b l.length)=some (.done (o b))) :
    ∀(F i:Nat) (b:β),i≤l.length→I i b→l.length - i<F→iter body F (st b i)=some (o ((l.drop i).foldl f b))
  | 0,i,b,_,_,hF=>by omega
  | F+1,i,b,hi,hI,hF=>by
    by_cases hin:i<l.length
    · have hx:l[i]? = some l[i]:=List.getElem?_eq_getElem hin
      have hdr:l.drop i=l[i]::l.drop (i+1):=List.drop_eq_getElem_cons hin
      obtain⟨h1,h2⟩:=h i _ b hx hI
      rw [iter_step h1,iter_fold2 l f st o I h hd F (i+1) _ hin h2 (by omega),hdr,List.foldl_cons]
    · have:i=l.length:=by omega
      subst this
      rw [iter_stop (hd b hI),List.drop_length]
      rfl
theorem shr_bytes {v:Int} (i:Nat) (hi:i≤8) (_h0:0≤v):ishr .u64 v (w64 (8 * i))=some (v / 256 ^ i):=by
  rw [w64_id (by omega) (by omega)]
  unfold ishr
  rw [if_neg (by omega)]
  have h1:min (8 * (i:Int)).toNat IntKind.u64.bits=8 * i:=by
    show min (8 * (i:Int)).toNat 64=8 * i
    omega
  rw [h1,show (2:Int) ^ (8 * i)=256 ^ i from by rw [Int.pow_mul]; rfl,Int.fdiv_eq_ediv_of_nonneg _ (Int.le_of_lt (pow_pos256 i))]
structure FieldOk (f:T_Field):Prop where
  s0:1≤f.Size
  s1:f.Size≤8
  v0:0≤f.Value
  v1:f.Value<18446744073709551616
  v2:f.Value<256 ^ f.Size.toNat
theorem oput_in (F:Nat) (x:T_Field) (hx:FieldOk x) (l:List Int) (hl:l.length≤1000000) (hF:9<F):iter (fun s=>octets_Put_l2 F x s.1 s.2) F (l,0)=some (l++leb x.Size.toNat x.Value):=by
  obtain⟨s0,s1,v0,v1,v2⟩:=hx
  have:=iter_count (body:=fun s:List Int×Int=>octets_Put_l2 F x s.1 s.2) (fun i=>(l++leb i x.Value,(i:Int))) x.Size.toNat (l++leb x.Size.toNat x.Value) (by
    intro i hi
    show octets_Put_l2 F x (l++leb i x.Value) i=_
    unfold octets_Put_l2
    rw [if_pos (by simp; omega),shr_bytes i (by omega) v0]
    simp only [Option.bind_some]
    rw [app_cat (by simp [leb_length]; omega)]
    simp only [Option.bind_some]
    rw [w64_nat i (by omega),leb_snoc,List.append_assoc]
    rfl) (by
    show octets_Put_l2 F x _ _=_
    unfold octets_Put_l2
    rw [if_neg (by simp; omega)]) F 0 (by omega) (by omega)
  simpa [leb] using this
def putAll (fs:List T_Field):List Int:=(fs.map fun f=>leb f.Size.toNat f.Value).flatten
theorem putAll_len:∀{fs:List T_Field},(∀f∈fs,FieldOk f)→(putAll fs).length≤8 * fs.length
  | [],_=>by simp [putAll]
  | f::fs,h=>by
    have h1:=h f (by simp)
    have h2:=putAll_len (fs:=fs) fun g hg=>h g (by simp [hg])
    obtain⟨s0,s1,_⟩:=h1
    simp only [putAll,List.map_cons,List.flatten_cons,List.length_append,leb_length,List.length_cons] at h2 ⊢
    omega
theorem oput_ok (F:Nat) (fs:List T_Field) (h:∀f∈fs,FieldOk f) (hn:fs.length≤1000) (hF:fs.length+9<F):octets_Put F fs=some (putAll fs,0):=by
  unfold octets_Put
  have:=iter_count (body:=fun s:List Int×Int=>octets_Put_l1 F fs s.1 s.2) (fun i=>(putAll (fs.take i),(i:Int))) fs.length (.inl (putAll fs)) (by
    intro i hi
    have hx:fs[i]? = some fs[i]:=List.getElem?_eq_getElem hi
    have hf:=h fs[i] (List.getElem_mem hi)
    have hlen:=putAll_len (fs:=fs.take i) (fun f hf=>h f (List.mem_of_mem_take hf))
    have htl:(fs.take i).length≤i:=by simp; omega
    show octets_Put_l1 F fs (putAll (fs.take i)) i=_
    unfold octets_Put_l1
    rw [if_pos (by simp [len]; omega),idx_nat,hx]
    simp only [Option.bind_some,octets_sized]
    obtain⟨s0,s1,v0,v1,v2⟩:=hf
    have hsz:(!(decide (fs[i].Size≥1)&&decide (fs[i].Size≤8)))=false:=by simp; omega
    rw [hsz]
    simp only [Bool.false_eq_true,if_false]
    have hz:((if decide (fs[i].Size<8)=true then (ishr IntKind.u64 fs[i].Value (w64 (8 * fs[i].Size))).bind fun x_16=>some (x_16 != 0) else some false))=some false:=by
      by_cases h8:fs[i].Size<8
      · rw [if_pos (by simpa using h8)]
        have:=shr_bytes (v:=fs[i].Value) fs[i].Size.toNat (by omega) v0
        rw [show ((fs[i].Size.toNat:Nat):Int)=fs[i].Size from by omega] at this
        rw [this,Int.ediv_eq_zero_of_lt v0 v2]
        rfl
      · rw [if_neg (by simpa using h8)]
    rw [hz]
    simp only [Option.bind_some,Bool.false_eq_true,if_false]
    rw [oput_in F fs[i] ⟨s0,s1,v0,v1,v2⟩ _ (by omega) (by omega)]
    simp only [Option.bind_some,octets_Put_j2]
    rw [w64_nat i (by omega),List.take_add_one,hx]
    simp only [putAll,List.map_append,List.flatten_append,Option.toList_some,List.map_cons,List.map_nil,List.flatten_cons,List.flatten_nil,List.append_nil]) (by
    show octets_Put_l1 F fs _ _=_
    unfold octets_Put_l1
    rw [if_neg (by simp [len]),List.take_length]) F 0 (by omega) (by omega)
  simp only [List.take_zero] at this
  have h0:(putAll [],((0:Nat):Int))=(([]:List Int),(0:Int)):=rfl
  rw [h0] at this
  rw [this]
  rfl
theorem number_ok (F:Nat) (k:Nat) (n:Int) (hk0:1≤k) (hk:k≤8) (h0:0≤n) (h1:n<18446744073709551616) (h2:n<256 ^ k) (hF:20<F):database_number F (k:Int) n=some (leb k n):=by
  unfold database_number
  rw [oput_ok F [T_Field.mk k n] (by
    intro f hf
    simp at hf
    subst hf
    exact⟨by simp only; omega,by simp only; omega,h0,h1,by simpa using h2⟩) (by simp) (by simp; omega),Option.bind_some]
  simp [putAll]
theorem join_three (F:Nat) (a b c:List Int) (hF:3<F) (h:a.length+b.length+c.length≤140737488355328):octets_Join F [a,b,c]=some (a++b++c):=by
  unfold octets_Join
  obtain⟨F',rfl⟩:∃F',F=F'+1+1+1+1:=⟨F - 4,by omega⟩
  have h1:octets_Join_l1 (F'+1+1+1+1) [a,b,c] [] 0=some (.next (a,1)):=by simpa using join_step (F'+1+1+1+1) [a,b,c] [] 0 a rfl (by simp; omega) (by simp)
  have h2:octets_Join_l1 (F'+1+1+1+1) [a,b,c] a 1=some (.next (a++b,2)):=by simpa using join_step (F'+1+1+1+1) [a,b,c] a 1 b rfl (by omega) (by simp)
  have h3:octets_Join_l1 (F'+1+1+1+1) [a,b,c] (a++b) 2=some (.next (a++b++c,3)):=by simpa using join_step (F'+1+1+1+1) [a,b,c] (a++b) 2 c rfl (by rw [List.length_append]; omega) (by simp)
  rw [iter_step h1,iter_step h2,iter_step h3,iter_stop (o:=a++b++c) (by unfold octets_Join_l1; rw [if_neg (by simp [len])])]
  rfl
def I32 (x:Int):Prop:=0≤x∧x<4294967296
def I64 (x:Int):Prop:=0≤x∧x<18446744073709551616
theorem ixor32_rng (a b:Int):I32 (ixor .u32 a b):=by
  unfold ixor I32
  rw [wrap_u32]
  unfold wu32
  omega
theorem ixor64_rng (a b:Int):I64 (ixor .u64 a b):=by
  unfold ixor I64
  rw [wrap_u64]
  unfold wu64
  omega
def rot (x:Int) (n m:Nat):Int:=ior .u32 (IntKind.u32.wrap (x * 2 ^ n)) (x.fdiv (2 ^ m))
theorem ishl_lit (x:Int) (n:Nat) (hn:n≤32):ishl .u32 x (n:Int)=some (IntKind.u32.wrap (x * 2 ^ n)):=by
  unfold ishl
  rw [if_neg (by omega)]
  have:min (n:Int).toNat IntKind.u32.bits=n:=by
    show min (n:Int).toNat 32=n
    omega
  rw [this]
theorem ishr_lit (k:IntKind) (x:Int) (n:Nat) (hn:n≤k.bits):ishr k x (n:Int)=some (x.fdiv (2 ^ n)):=by
  unfold ishr
  rw [if_neg (by omega)]
  have:min (n:Int).toNat k.bits=n:=by omega
  rw [this]
theorem rot_u (F:Nat) (x:Int) (n:Nat) (h1:1≤n) (h2:n≤31) (e:iand .u64 (wu64 (n:Int)) 31=(n:Int)):math_bits_RotateLeft32 F x (n:Int)=some (rot x n (32 - n)):=by
  unfold math_bits_RotateLeft32
  rw [e,show wu64 (32 - (n:Int))=((32 - n:Nat):Int) from by rw [wu64_id (by omega) (by omega)]; omega,ishl_lit x n (by omega),ishr_lit .u32 x (32 - n) (by show 32 - n≤32; omega),Option.bind_some,Option.bind_some]
  rfl
theorem rot_r (F:Nat) (x:Int) (n:Nat) (h1:1≤n) (h2:n≤31):wirelessref05_Turn F x (n:Int)=some (rot x n (32 - n)):=by
  unfold wirelessref05_Turn
  rw [show w64 (32 - (n:Int))=((32 - n:Nat):Int) from by rw [w64_id (by omega) (by omega)]; omega,ishl_lit x n (by omega),ishr_lit .u32 x (32 - n) (by show 32 - n≤32; omega),Option.bind_some,Option.bind_some]
  rfl
def rnd (h:Int):Int:=ixor .u32 (wu32 (rot (wu32 (h+0)) 7 25 * 2654435761)) (rot 0 16 16)
theorem round_u (F:Nat) (i:Int) (h0:0≤i) (h1:i<8) (h:Int):block_Round F 0 i h=some (rnd h):=by
  unfold block_Round
  have e1:math_bits_RotateLeft64 F 0 (remp (w64 (11 * (remp i 64))) 64)=some 0:=by
    have e_0:math_bits_RotateLeft64 F 0 (remp (w64 (11 * (remp 0 64))) 64)=some 0:=by kernel_rfl
    have e_1:math_bits_RotateLeft64 F 0 (remp (w64 (11 * (remp 1 64))) 64)=some 0:=by kernel_rfl
    have e_2:math_bits_RotateLeft64 F 0 (remp (w64 (11 * (remp 2 64))) 64)=some 0:=by kernel_rfl
    have e_3:math_bits_RotateLeft64 F 0 (remp (w64 (11 * (remp 3 64))) 64)=some 0:=by kernel_rfl
    have e_4:math_bits_RotateLeft64 F 0 (remp (w64 (11 * (remp 4 64))) 64)=some 0:=by kernel_rfl
    have e_5:math_bits_RotateLeft64 F 0 (remp (w64 (11 * (remp 5 64))) 64)=some 0:=by kernel_rfl
    have e_6:math_bits_RotateLeft64 F 0 (remp (w64 (11 * (remp 6 64))) 64)=some 0:=by kernel_rfl
    have e_7:math_bits_RotateLeft64 F 0 (remp (w64 (11 * (remp 7 64))) 64)=some 0:=by kernel_rfl
    have:i=0∨i=1∨i=2∨i=3∨i=4∨i=5∨i=6∨i=7:=by omega
    rcases this with h | h | h | h | h | h | h | h
    · rw [h]; exact e_0
    · rw [h]; exact e_1
    · rw [h]; exact e_2
    · rw [h]; exact e_3
    · rw [h]; exact e_4
    · rw [h]; exact e_5
    · rw [h]; exact e_6
    · rw [h]; exact e_7
  have e2:serial_Low F 0 32=some 0:=by kernel_rfl
  have e3:wu32 0=0:=rfl
  rw [e1,Option.bind_some,e2,Option.bind_some,e3]
  have r1:=rot_u F (wu32 (h+0)) 7 (by decide) (by decide) (by kernel_rfl)
  have r2:=rot_u F 0 16 (by decide) (by decide) (by kernel_rfl)
  rw [show ((7:Nat):Int)=7 from rfl] at r1
  rw [show ((16:Nat):Int)=16 from rfl] at r2
  rw [r1,r2,Option.bind_some,Option.bind_some]
  rfl
theorem round_r (F:Nat) (i:Int) (h0:0≤i) (h1:i<8) (h:Int):wirelessref05_Round F 0 i h=some (rnd h):=by
  unfold wirelessref05_Round
  have e1:wirelessref05_Low F 0 i=some 0:=by
    have e_0:wirelessref05_Low F 0 0=some 0:=by kernel_rfl
    have e_1:wirelessref05_Low F 0 1=some 0:=by kernel_rfl
    have e_2:wirelessref05_Low F 0 2=some 0:=by kernel_rfl
    have e_3:wirelessref05_Low F 0 3=some 0:=by kernel_rfl
    have e_4:wirelessref05_Low F 0 4=some 0:=by kernel_rfl
    have e_5:wirelessref05_Low F 0 5=some 0:=by kernel_rfl
    have e_6:wirelessref05_Low F 0 6=some 0:=by kernel_rfl
    have e_7:wirelessref05_Low F 0 7=some 0:=by kernel_rfl
    have:i=0∨i=1∨i=2∨i=3∨i=4∨i=5∨i=6∨i=7:=by omega
    rcases this with h | h | h | h | h | h | h | h
    · rw [h]; exact e_0
    · rw [h]; exact e_1
    · rw [h]; exact e_2
    · rw [h]; exact e_3
    · rw [h]; exact e_4
    · rw [h]; exact e_5
    · rw [h]; exact e_6
    · rw [h]; exact e_7
  rw [e1,Option.bind_some]
  have r1:=rot_r F (wu32 (h+0)) 7 (by decide) (by decide)
  have r2:=rot_r F 0 16 (by decide) (by decide)
  rw [show ((7:Nat):Int)=7 from rfl] at r1
  rw [show ((16:Nat):Int)=16 from rfl] at r2
  rw [r1,r2,Option.bind_some,Option.bind_some]
  rfl
def mx:Nat→Int×Int→Int×Int
  | 0,s=>s
  | n+1,s=>((mx n s).2,ixor .u32 (mx n s).1 (rnd (mx n s).2))
theorem mx_rng:∀(n:Nat) (s:Int×Int),I32 s.1→I32 s.2→I32 (mx n s).1∧I32 (mx n s).2
  | 0,_,h1,h2=>⟨h1,h2⟩
  | n+1,s,h1,h2=>⟨(mx_rng n s h1 h2).2,ixor32_rng _ _⟩
def mix0 (x:Int):Int:=(mx 8 (x / 4294967296,x % 4294967296)).1 * 4294967296+(mx 8 (x / 4294967296,x % 4294967296)).2
theorem mix0_rng {x:Int} (h:I64 x):I64 (mix0 x):=by
  obtain⟨h0,h1⟩:=h
  obtain⟨⟨a1,a2⟩,b1,b2⟩:=mx_rng 8 (x / 4294967296,x % 4294967296) ⟨by simp only; omega,by simp only; omega⟩ ⟨by simp only; omega,by simp only; omega⟩
  unfold mix0 I64
  omega
theorem iand_mod (x:Int) (h0:0≤x) (h1:x<18446744073709551616):iand .u64 x 4294967295=x % 4294967296:=by
  obtain⟨a,rfl⟩:=Int.eq_ofNat_of_zero_le h0
  unfold iand
  have e:(BitVec.ofInt IntKind.u64.bits (a:Int) &&& BitVec.ofInt IntKind.u64.bits 4294967295).toNat=a % 4294967296:=by
    rw [BitVec.toNat_and]
    show (BitVec.ofInt 64 (a:Int)).toNat &&& (BitVec.ofInt 64 ((4294967295:Nat):Int)).toNat=_
    rw [ofInt_nat 64 a (by omega),ofInt_nat 64 4294967295 (by decide),show (4294967295:Nat)=2 ^ 32 - 1 from by decide,Nat.and_two_pow_sub_one_eq_mod]
  rw [e,wrap_u64,wu64_id (by omega) (by omega)]
  omega
theorem split_ok (F:Nat) {x:Int} (h:I64 x):block_split F x=some (x / 4294967296,x % 4294967296):=by
  obtain⟨h0,h1⟩:=h
  have e1:∀x,serial_Low F x 32=some (iand .u64 x 4294967295):=by
    intro x
    unfold serial_Low
    rw [if_neg (by decide),if_neg (by decide),show ishl .u64 1 32=some 4294967296 from by kernel_rfl,Option.bind_some]
    rfl
  unfold block_split
  rw [e1,Option.bind_some,iand_mod x h0 h1,shrp_eq,show (2:Int) ^ 32=4294967296 from rfl,wu32_id (by omega) (by omega),wu32_id (by omega) (by omega)]
theorem mix_iter (F:Nat) (b:Int×Int×Int→Option (Out (Int×Int×Int) (Int×Int))) (s:Int×Int) (hF:8<F)
    (h:∀(x y:Int) (i:Nat),i<8→b (x,y,(i:Int))=some (.next (y,ixor .u32 x (rnd y),((i+1:Nat):Int)))) (hd:∀x y:Int,b (x,y,8)=some (.done (x,y))):iter b F (s.1,s.2,0)=some (mx 8 s):=by
  have:=iter_count (body:=b) (fun i=>((mx i s).1,(mx i s).2,(i:Int))) 8 (mx 8 s) (fun i hi=>h _ _ i hi) (hd _ _) F 0 (by omega) (by omega)
  exact this
theorem mix_u (F:Nat) {x:Int} (h:I64 x) (hF:8<F):block_Mix F 0 x=some (mix0 x):=by
  have hm:=mx_rng 8 (x / 4294967296,x % 4294967296) (by obtain⟨h0,h1⟩:=h; exact⟨by simp only; omega,by simp only; omega⟩) (by obtain⟨h0,h1⟩:=h; exact⟨by simp only; omega,by simp only; omega⟩)
  unfold block_Mix
  rw [split_ok F h,Option.bind_some]
  have:=mix_iter F (fun s=>block_Mix_l1 F 0 s.1 s.2.1 s.2.2) (x / 4294967296,x % 4294967296) hF (by
    intro x y i hi
    show block_Mix_l1 F 0 x y (i:Int)=_
    unfold block_Mix_l1
    rw [if_pos (dt (by omega)),round_u F i (by omega) (by omega),Option.bind_some,w64_nat i (by omega)]) (by
    intro x y
    show block_Mix_l1 F 0 x y 8=_
    unfold block_Mix_l1
    rw [if_neg (by decide)])
  rw [this,Option.bind_some]
  unfold block_Mix_j1 block_halves_join mix0
  generalize mx 8 (x / 4294967296,x % 4294967296)=t at hm
  obtain⟨⟨a0,a1⟩,b0,b1⟩:=hm
  obtain⟨a,b⟩:=t
  simp only at a0 a1 b0 b1 ⊢
  obtain⟨a,rfl⟩:=Int.eq_ofNat_of_zero_le a0
  obtain⟨b,rfl⟩:=Int.eq_ofNat_of_zero_le b0
  have e:shlp .u64 (wu64 (a:Int)) 32=((a * 2 ^ 32:Nat):Int):=by
    unfold shlp
    rw [wu64_id (by omega) (by omega),wrap_u64,show (a:Int) * 2 ^ 32=((a * 2 ^ 32:Nat):Int) from by rw [Int.natCast_mul]; rfl,wu64_id (by omega) (by omega)]
  rw [Option.bind_some,e,wu64_id (x:=(b:Int)) (by omega) (by omega),ior64 _ _ (by omega) (by omega),Nat.or_comm,nat_or_add _ _ 32 (by omega)]
  congr 1
  omega
theorem mix_r (F:Nat) {x:Int} (h:I64 x) (hF:8<F):wirelessref05_Mix F 0 x=some (mix0 x):=by
  have hm:=mx_rng 8 (x / 4294967296,x % 4294967296) (by obtain⟨h0,h1⟩:=h; exact⟨by simp only; omega,by simp only; omega⟩) (by obtain⟨h0,h1⟩:=h; exact⟨by simp only; omega,by simp only; omega⟩)
  obtain⟨h0,h1⟩:=h
  have e1:wu32 (quop .u64 x 4294967296)=x / 4294967296:=by
    unfold quop
    rw [Int.tdiv_eq_ediv_of_nonneg h0,wrap_u64,wu64_id (by omega) (by omega),wu32_id (by omega) (by omega)]
  have e2:wu32 (remp x 4294967296)=x % 4294967296:=by
    unfold remp
    rw [Int.tmod_eq_emod_of_nonneg h0,wu32_id (by omega) (by omega)]
  unfold wirelessref05_Mix
  rw [e1,e2]
  have:=mix_iter F (fun s=>wirelessref05_Mix_l1 F 0 s.1 s.2.1 s.2.2) (x / 4294967296,x % 4294967296) hF (by
    intro x y i hi
    show wirelessref05_Mix_l1 F 0 x y (i:Int)=_
    unfold wirelessref05_Mix_l1
    rw [if_pos (dt (by omega)),round_r F i (by omega) (by omega),Option.bind_some,w64_nat i (by omega)]) (by
    intro x y
    show wirelessref05_Mix_l1 F 0 x y 8=_
    unfold wirelessref05_Mix_l1
    rw [if_neg (by decide)])
  rw [this,Option.bind_some]
  unfold wirelessref05_Mix_j1 mix0
  generalize mx 8 (x / 4294967296,x % 4294967296)=t at hm
  obtain⟨⟨a0,a1⟩,b0,b1⟩:=hm
  rw [wu64_id (x:=t.1) (by omega) (by omega),wu64_id (x:=t.1 * 4294967296) (by omega) (by omega),wu64_id (x:=t.2) (by omega) (by omega),wu64_id (by omega) (by omega)]
theorem num_rng {l:List Int} (hb:∀x∈l,Byte x) (hl:l.length≤8):I64 (num l):=by
  have h1:=num_lt hb
  have h2:(256:Int) ^ l.length≤256 ^ 8:=by
    have h2:(256:Nat) ^ l.length≤256 ^ 8:=Nat.pow_le_pow_right (by decide) hl
    have h3:((256 ^ l.length:Nat):Int)≤((256 ^ 8:Nat):Int):=Int.ofNat_le.2 h2
    rw [Int.natCast_pow,Int.natCast_pow] at h3
    exact h3
  rw [show (256:Int) ^ 8=18446744073709551616 from rfl] at h2
  exact⟨num_nonneg hb,by omega⟩
theorem chunk_u (F:Nat) (l:List Int) (hb:∀x∈l,Byte x) (hl:l.length≤8) (hF:8<F):iter (fun s:Int×Int=>mac_Tag_it_l2 F l s.1 s.2) F (0,0)=some (num l):=by
  have:=iter_count (body:=fun s:Int×Int=>mac_Tag_it_l2 F l s.1 s.2) (fun i=>(num (l.take i),(i:Int))) l.length (num l) (by
    intro i hi
    have hx:l[i]? = some l[i]:=List.getElem?_eq_getElem hi
    show mac_Tag_it_l2 F l (num (l.take i)) (i:Int)=_
    unfold mac_Tag_it_l2
    rw [if_pos (dt (show (i:Int)<len l by rw [len_nat]; omega)),idx_nat,hx,Option.bind_some,shl_bytes (hb _ (List.mem_of_getElem? hx)) i (by omega),Option.bind_some,w64_nat i (by omega),ior_num hb (by omega) _ hx]) (by
    show mac_Tag_it_l2 F l _ (l.length:Int)=_
    unfold mac_Tag_it_l2
    rw [if_neg (df (by rw [len_nat]; omega)),List.take_length]) F 0 (by omega) (by omega)
  exact this
theorem chunk_r (F:Nat) (l:List Int) (hb:∀x∈l,Byte x) (hl:l.length≤8) (hF:8<F):wirelessref02_Value F l=some (num l):=by
  unfold wirelessref02_Value
  have:=iter_count (body:=fun s:Int×Int=>wirelessref02_Value_l1 F l s.1 s.2) (fun j=>(num (l.drop (l.length - j)),((l.length - j:Nat):Int) - 1)) l.length (num l) (by
    intro j hj
    have hi:l.length - j - 1<l.length:=by omega
    have hx:l[l.length - j - 1]? = some l[l.length - j - 1]:=List.getElem?_eq_getElem hi
    have hdr:l.drop (l.length - j - 1)=l[l.length - j - 1]::l.drop (l.length - j - 1+1):=List.drop_eq_getElem_cons hi
    have hby:=hb _ (List.getElem_mem hi)
    generalize l[l.length - j - 1]=x at hx hdr hby
    have hn:=num_rng (l:=l.drop (l.length - j - 1)) (fun y hy=>hb y (List.mem_of_mem_drop hy)) (by rw [List.length_drop]; omega)
    have hn2:=num_nonneg (l:=l.drop (l.length - j)) (fun y hy=>hb y (List.mem_of_mem_drop hy))
    rw [show l.length - j - 1+1=l.length - j from by omega] at hdr
    rw [hdr,num] at hn
    obtain⟨hn0,hn1⟩:=hn
    obtain⟨hb0,hb1⟩:=hby
    show wirelessref02_Value_l1 F l (num (l.drop (l.length - j))) (((l.length - j:Nat):Int) - 1)=_
    unfold wirelessref02_Value_l1
    rw [if_pos (dt (by omega)),show ((l.length - j:Nat):Int) - 1=((l.length - j - 1:Nat):Int) from by omega,idx_nat,hx,Option.bind_some,wu64_id (x:=num (l.drop (l.length - j)) * 256) (by omega) (by omega),wu64_id (x:=x) (by omega) (by omega),wu64_id (by omega) (by omega),w64_id (by omega) (by omega)]
    rw [show l.length - (j+1)=l.length - j - 1 from by omega,hdr,num]
    congr 3
    omega) (by
    show wirelessref02_Value_l1 F l _ (((l.length - l.length:Nat):Int) - 1)=_
    unfold wirelessref02_Value_l1
    rw [if_neg (df (by omega)),Nat.sub_self,List.drop_zero]) F 0 (by omega) (by omega)
  have h0:num (l.drop (l.length - 0))=0:=by rw [Nat.sub_zero,List.drop_length]; rfl
  rw [h0] at this
  rw [len_nat,w64_id (by omega) (by omega)]
  rw [show ((l.length - 0:Nat):Int) - 1=(l.length:Int) - 1 from by omega] at this
  rw [this,Option.bind_some]
  rfl
theorem tag_same (F:Nat) (b:List Int) (hb:∀x∈b,Byte x) (hl:b.length≤1000000000) (hF:1000000020<F):∃x,mac_Tag F 0 b=some x∧wirelessref06_Tag F 0 b=some x∧I64 x:=by
  have h0:I64 (wu64 (len b)):=by rw [len_nat,wu64_id (by omega) (by omega)]; exact⟨by omega,by omega⟩
  obtain⟨o1,o2,h1,h2,h3,h4⟩:=iter_sim (b1:=fun s:Int×Int=>mac_Tag_it_l1 F 0 b s.1 s.2) (b2:=fun s:Int×Int=>wirelessref06_Tag_l1 F 0 b s.1 s.2)
    (fun s t=>s=t∧I64 s.1∧∃i:Nat,s.2=(i:Int)∧i≤b.length+8) (fun a b=>a=b∧I64 a) (fun s=>b.length+8 - s.2.toNat) (by
    rintro⟨x,at_⟩ _ ⟨rfl,hx,i,hi,hil⟩
    simp only at hx hi
    subst hi
    show (∃t1 t2,mac_Tag_it_l1 F 0 b x (i:Int)=some (.next t1)∧wirelessref06_Tag_l1 F 0 b x (i:Int)=some (.next t2)∧_)∨∃o1 o2,mac_Tag_it_l1 F 0 b x (i:Int)=some (.done o1)∧wirelessref06_Tag_l1 F 0 b x (i:Int)=some (.done o2)∧_
    unfold mac_Tag_it_l1 wirelessref06_Tag_l1
    by_cases hin:i<b.length
    · have hmin:imin (w64 ((i:Int)+8)) (len b)=((min (i+8) b.length:Nat):Int):=by
        rw [w64_id (by omega) (by omega),len_nat]
        unfold imin
        by_cases h:(b.length:Int)<(i:Int)+8
        · rw [if_pos h]; omega
        · rw [if_neg h]; omega
      have hcb:∀y∈(b.take (min (i+8) b.length)).drop i,Byte y:=fun y hy=>hb y (List.mem_of_mem_take (List.mem_of_mem_drop hy))
      have hcl:((b.take (min (i+8) b.length)).drop i).length≤8:=by rw [List.length_drop,List.length_take]; omega
      rw [if_pos (dt (show (i:Int)<len b by rw [len_nat]; omega)),if_pos (dt (show (i:Int)<len b by rw [len_nat]; omega)),hmin,sub_nat b i _ (by omega) (by omega),Option.bind_some,Option.bind_some,chunk_u F _ hcb hcl (by omega),chunk_r F _ hcb hcl (by omega),Option.bind_some,Option.bind_some]
      unfold mac_Tag_it_j2 mac_Tag_b
      have hr:=ixor64_rng x (num ((b.take (min (i+8) b.length)).drop i))
      rw [mix_u F hr (by omega),mix_r F hr (by omega),Option.bind_some,Option.bind_some,Option.bind_some]
      unfold mac_Tag_it_j1
      refine .inl ⟨_,_,rfl,rfl,⟨rfl,mix0_rng hr,i+8,?_,by omega⟩,?_⟩
      · simp only
        rw [w64_id (by omega) (by omega)]
        omega
      · simp only
        rw [w64_id (by omega) (by omega)]
        omega
    · rw [if_neg (df (show ¬ (i:Int)<len b by rw [len_nat]; omega)),if_neg (df (show ¬ (i:Int)<len b by rw [len_nat]; omega))]
      exact .inr ⟨_,_,rfl,rfl,rfl,hx⟩) F (mix0 (wu64 (len b)),0) (mix0 (wu64 (len b)),0) ⟨rfl,mix0_rng h0,0,rfl,by omega⟩ (by simp only; omega)
  subst h3
  refine ⟨o1,?_,?_,h4⟩
  · unfold mac_Tag mac_Tag_it
    rw [mix_u F h0 (by omega),Option.bind_some,h1]
    rfl
  · unfold wirelessref06_Tag
    rw [mix_r F h0 (by omega),Option.bind_some,h2]
    rfl
theorem rnum8_step (F:Nat) (size n i:Int) (l:List Int) (h0:0≤n) (h1:n<18446744073709551616) (hl:l.length≤1000000) (hi:0≤i∧i<1000) (hs:i<size):wirelessref02_Num_l1 F size n l i=some (.next (n / 256,l++[n % 256],i+1)):=by
  unfold wirelessref02_Num_l1
  rw [if_pos (by simpa using hs)]
  simp only [remp,quop,tmod256 h0,tdiv256 h0,wrap_u64]
  rw [wu8_id (by omega) (by omega),app_cat (by simp; omega)]
  simp only [Option.bind_some]
  rw [wu64_id (by omega) (by omega),w64_id (by omega) (by omega)]
theorem rnum8_ok (F:Nat) (n:Int) (hF:9<F) (h:I64 n):wirelessref02_Num F 8 n=some (leb 8 n):=by
  have key:∀(m f:Nat) (n i:Int) (l:List Int),0≤n→n<18446744073709551616→l.length≤1000 - m→m≤8→0≤i→i+m=8→m<f→iter (fun s:Int×List Int×Int=>wirelessref02_Num_l1 F 8 s.1 s.2.1 s.2.2) f (n,l,i)=some (l++leb m n):=by
    intro m
    induction m with
    | zero=>
      intro f n i l h0 h1 hl hm hi hik hf
      cases f with
      | zero=>omega
      | succ f=>
        rw [iter_stop (o:=l) (by unfold wirelessref02_Num_l1; rw [if_neg (by simp; omega)])]
        simp [leb]
    | succ m ih=>
      intro f n i l h0 h1 hl hm hi hik hf
      cases f with
      | zero=>omega
      | succ f=>
        rw [iter_step (rnum8_step F 8 n i l h0 h1 (by omega) (by omega) (by omega)),ih f (n / 256) (i+1) (l++[n % 256]) (by omega) (by omega) (by simp; omega) (by omega) (by omega) (by omega) (by omega)]
        simp [leb]
  unfold wirelessref02_Num
  rw [key 8 F n 0 [] h.1 h.2 (by simp) (by omega) (by omega) (by omega) (by omega),Option.bind_some]
  rfl
theorem derive_same (F:Nat) (x:Int) (hx:I64 x) (hF:1000000020<F):∃y,mac_Derive F 0 [104,97,115,104] [x]=some y∧wirelessref06_Derive F 0 [104,97,115,104] [x]=some y:=by
  obtain⟨y,h1,h2,_⟩:=tag_same F ([104,97,115,104,0]++leb 8 x) (by
    intro z hz
    rcases List.mem_append.1 hz with hz | hz
    · simp at hz
      unfold Byte
      omega
    · exact leb_byte _ _ z hz) (by rw [List.length_append,leb_length]; simp) hF
  refine ⟨y,?_,?_⟩
  · unfold mac_Derive mac_bytes
    obtain⟨F',rfl⟩:∃F',F=F'+1+1:=⟨F - 2,by omega⟩
    have s1:mac_bytes_l1 (F'+1+1) [x] [] 0=some (.next ([T_Field.mk 8 x],1)):=by
      unfold mac_bytes_l1
      rw [if_pos (by simp [len]),show idx [x] 0=some x from rfl,Option.bind_some,app_small (by simp) (by omega),Option.bind_some]
      rfl
    have s2:mac_bytes_l1 (F'+1+1) [x] [T_Field.mk 8 x] 1=some (.done [T_Field.mk 8 x]):=by
      unfold mac_bytes_l1
      rw [if_neg (by simp [len])]
    rw [app_cat (by simp),Option.bind_some,iter_step (body:=fun s:List T_Field×Int=>mac_bytes_l1 (F'+1+1) [x] s.1 s.2) s1,iter_stop (body:=fun s:List T_Field×Int=>mac_bytes_l1 (F'+1+1) [x] s.1 s.2) s2,Option.bind_some]
    unfold mac_bytes_j1
    rw [oput_ok (F'+1+1) [T_Field.mk 8 x] (by
      intro f hf
      simp at hf
      subst hf
      exact⟨by simp,by simp,hx.1,hx.2,hx.2⟩) (by simp) (by simp; omega),Option.bind_some,Option.bind_some]
    have hp:putAll [T_Field.mk 8 x]=leb 8 x:=by simp [putAll]
    rw [hp,join_three _ _ _ _ (by omega) (by rw [leb_length]; simp),Option.bind_some]
    show (mac_Tag (F'+1+1) 0 ([104,97,115,104,0]++leb 8 x)).bind _=_
    rw [h1]
    rfl
  · unfold wirelessref06_Derive
    obtain⟨F',rfl⟩:∃F',F=F'+1+1:=⟨F - 2,by omega⟩
    have s1:wirelessref06_Derive_l1 (F'+1+1) [x] [104,97,115,104,0] 0=some (.next ([104,97,115,104,0]++leb 8 x,1)):=by
      unfold wirelessref06_Derive_l1
      rw [if_pos (by simp [len]),show idx [x] 0=some x from rfl,Option.bind_some,rnum8_ok _ x (by omega) hx,Option.bind_some,app_cat (by rw [leb_length]; simp),Option.bind_some]
      rfl
    have s2:wirelessref06_Derive_l1 (F'+1+1) [x] ([104,97,115,104,0]++leb 8 x) 1=some (.done ([104,97,115,104,0]++leb 8 x)):=by
      unfold wirelessref06_Derive_l1
      rw [if_neg (by simp [len])]
    rw [app_cat (by simp),Option.bind_some,app_cat (by simp),Option.bind_some]
    show (iter (fun s:List Int×Int=>wirelessref06_Derive_l1 (F'+1+1) [x] s.1 s.2) (F'+1+1) ([104,97,115,104,0],0)).bind _=_
    rw [iter_step (body:=fun s:List Int×Int=>wirelessref06_Derive_l1 (F'+1+1) [x] s.1 s.2) s1,iter_stop (body:=fun s:List Int×Int=>wirelessref06_Derive_l1 (F'+1+1) [x] s.1 s.2) s2,Option.bind_some]
    unfold wirelessref06_Derive_j1
    rw [h2]
    rfl
def hat (a:T_Attribute):List Int:=(leb 2 a.Handle++leb 8 a.f_Type.Low++leb 8 a.f_Type.High)++(if decl a.f_Type=true then leb 2 (a.Value.length:Int)++a.Value else [])
def hbs (db:List T_Attribute):List Int:=db.foldl (fun b a=>b++hat a) []
theorem hat_len {a:T_Attribute} (h:a.Value.length≤8192):(hat a).length≤8300:=by
  unfold hat
  rw [List.length_append,List.length_append,List.length_append,leb_length,leb_length,leb_length]
  by_cases hd:decl a.f_Type=true
  · rw [if_pos hd,List.length_append,leb_length]; omega
  · rw [if_neg hd,List.length_nil]; omega
theorem hat_byte {a:T_Attribute} (h:AOk a):∀x∈hat a,Byte x:=by
  intro x hx
  unfold hat at hx
  rcases List.mem_append.1 hx with hx | hx
  · rcases List.mem_append.1 hx with hx | hx
    · rcases List.mem_append.1 hx with hx | hx
      · exact leb_byte _ _ x hx
      · exact leb_byte _ _ x hx
    · exact leb_byte _ _ x hx
  · by_cases hd:decl a.f_Type=true
    · rw [if_pos hd] at hx
      rcases List.mem_append.1 hx with hx | hx
      · exact leb_byte _ _ x hx
      · exact h.b x hx
    · rw [if_neg hd] at hx
      cases hx
theorem hbs_inv:∀(db:List T_Attribute) (b:List Int),(∀a∈db,AOk a)→(∀a∈db,a.Value.length≤8192)→(∀x∈b,Byte x)→(∀x∈db.foldl (fun b a=>b++hat a) b,Byte x)∧(db.foldl (fun b a=>b++hat a) b).length≤b.length+8300 * db.length
  | [],b,_,_,hb=>⟨hb,by simp⟩
  | a::r,b,h1,h2,hb=>by
    have ih:=hbs_inv r (b++hat a) (fun c hc=>h1 c (by simp [hc])) (fun c hc=>h2 c (by simp [hc])) (by
      intro x hx
      rcases List.mem_append.1 hx with hx | hx
      · exact hb x hx
      · exact hat_byte (h1 a (by simp)) x hx)
    have hl:=hat_len (h2 a (by simp))
    rw [List.foldl_cons,List.length_cons]
    refine ⟨ih.1,Nat.le_trans ih.2 ?_⟩
    rw [List.length_append]
    omega
theorem u_hbs (F:Nat) (db:List T_Attribute) (hdb:∀a∈db,AOk a) (hv:∀a∈db,a.Value.length≤8192) (hn:db.length≤1000) (hF:2000<F):iter (fun s:List Int×Int=>database_Hash_l1 F db s.1 s.2) F ([],0)=some (hbs db):=by
  have:=iter_fold2 (body:=fun s:List Int×Int=>database_Hash_l1 F db s.1 s.2) db (fun b a=>b++hat a) (fun b i=>(b,(i:Int))) (fun b=>b) (fun i b=>b.length≤8300 * i) (by
    intro i a b hx hb
    have hi:=(List.getElem?_eq_some_iff.1 hx).1
    have ha:=hdb a (List.mem_of_getElem? hx)
    have hva:=hv a (List.mem_of_getElem? hx)
    have hl:=hat_len hva
    refine ⟨?_,by rw [List.length_append]; omega⟩
    show database_Hash_l1 F db b (i:Int)=_
    unfold database_Hash_l1
    have n1:=number_ok F 2 a.Handle (by decide) (by decide) ha.h0 (by have:=ha.h1; omega) (by have:=ha.h1; rw [show (256:Int) ^ 2=65536 from rfl]; omega) (by omega)
    have n2:=number_ok F 8 a.f_Type.Low (by decide) (by decide) ha.u.l0 ha.u.l1 (by rw [show (256:Int) ^ 8=18446744073709551616 from rfl]; exact ha.u.l1) (by omega)
    have n3:=number_ok F 8 a.f_Type.High (by decide) (by decide) ha.u.h0 ha.u.h1 (by rw [show (256:Int) ^ 8=18446744073709551616 from rfl]; exact ha.u.h1) (by omega)
    rw [show ((2:Nat):Int)=2 from rfl] at n1
    rw [show ((8:Nat):Int)=8 from rfl] at n2 n3
    rw [if_pos (dt (show (i:Int)<len db by rw [len_nat]; omega)),idx_nat,hx,Option.bind_some,wu64_id (x:=a.Handle) ha.h0 (by have:=ha.h1; omega),n1,Option.bind_some,n2,Option.bind_some,n3,Option.bind_some,join_three F _ _ _ (by omega) (by rw [leb_length,leb_length,leb_length]; omega),Option.bind_some,app_cat (by rw [List.length_append,List.length_append,leb_length,leb_length,leb_length]; omega),Option.bind_some]
    unfold database_Hash_j3 hat
    rw [declaration_ok F ha.u (by omega),Option.bind_some]
    by_cases hd:decl a.f_Type=true
    · have n4:=number_ok F 2 (a.Value.length:Int) (by decide) (by decide) (by omega) (by omega) (by rw [show (256:Int) ^ 2=65536 from rfl]; omega) (by omega)
      rw [show ((2:Nat):Int)=2 from rfl] at n4
      rw [if_pos hd,if_pos hd,len_nat,wu64_id (x:=(a.Value.length:Int)) (by omega) (by omega),n4,Option.bind_some,join_two F _ _ (by omega) (by rw [leb_length]; omega),Option.bind_some,app_cat (by simp only [List.length_append,leb_length]; omega),Option.bind_some]
      unfold database_Hash_j2
      rw [w64_nat i (by omega),List.append_assoc]
    · rw [if_neg hd,if_neg hd]
      unfold database_Hash_j2
      rw [w64_nat i (by omega),List.append_nil]) (by
    intro b _
    show database_Hash_l1 F db b (db.length:Int)=_
    unfold database_Hash_l1
    rw [if_neg (df (by rw [len_nat]; omega))]) F 0 [] (by omega) (by simp) (by omega)
  rw [List.drop_zero] at this
  exact this
theorem r_hbs (F:Nat) (db:List T_Attribute) (hdb:∀a∈db,AOk a) (hv:∀a∈db,a.Value.length≤8192) (hn:db.length≤1000) (hF:2000<F):iter (fun s:List Int×Int=>wirelessref43_Hash_l1 F db s.1 s.2) F ([],0)=some (hbs db):=by
  have:=iter_fold2 (body:=fun s:List Int×Int=>wirelessref43_Hash_l1 F db s.1 s.2) db (fun b a=>b++hat a) (fun b i=>(b,(i:Int))) (fun b=>b) (fun i b=>b.length≤8300 * i) (by
    intro i a b hx hb
    have hi:=(List.getElem?_eq_some_iff.1 hx).1
    have ha:=hdb a (List.mem_of_getElem? hx)
    have hva:=hv a (List.mem_of_getElem? hx)
    have hl:=hat_len hva
    refine ⟨?_,by rw [List.length_append]; omega⟩
    show wirelessref43_Hash_l1 F db b (i:Int)=_
    unfold wirelessref43_Hash_l1
    have n1:=rput_ok F a.Handle 2 (by omega) (by omega) ha.h0 (by have:=ha.h1; omega)
    have n2:=rput_ok F a.f_Type.Low 8 (by omega) (by omega) ha.u.l0 ha.u.l1
    have n3:=rput_ok F a.f_Type.High 8 (by omega) (by omega) ha.u.h0 ha.u.h1
    rw [show ((2:Nat):Int)=2 from rfl] at n1
    rw [show ((8:Nat):Int)=8 from rfl] at n2 n3
    rw [if_pos (dt (show (i:Int)<len db by rw [len_nat]; omega)),idx_nat,hx,Option.bind_some,wu64_id (x:=a.Handle) ha.h0 (by have:=ha.h1; omega),n1,Option.bind_some,app_cat (by rw [leb_length]; omega),Option.bind_some,Option.bind_some,n2,Option.bind_some,app_cat (by simp only [List.length_append,leb_length]; omega),Option.bind_some,Option.bind_some,n3,Option.bind_some,app_cat (by simp only [List.length_append,leb_length]; omega),Option.bind_some,Option.bind_some,rdeclares,Option.bind_some]
    unfold hat
    by_cases hd:decl a.f_Type=true
    · have n4:=rput_ok F (a.Value.length:Int) 2 (by omega) (by omega) (by omega) (by omega)
      rw [show ((2:Nat):Int)=2 from rfl] at n4
      rw [if_pos hd,if_pos hd,Option.bind_some,len_nat,wu64_id (x:=(a.Value.length:Int)) (by omega) (by omega),n4,Option.bind_some,app_cat (by simp only [List.length_append,leb_length]; omega),Option.bind_some,Option.bind_some,app_cat (by simp only [List.length_append,leb_length]; omega),Option.bind_some]
      unfold wirelessref43_Hash_j2
      rw [w64_nat i (by omega)]
      simp only [List.append_assoc]
    · rw [if_neg hd,if_neg hd]
      unfold wirelessref43_Hash_j2
      rw [w64_nat i (by omega)]
      simp only [List.append_assoc,List.append_nil]) (by
    intro b _
    show wirelessref43_Hash_l1 F db b (db.length:Int)=_
    unfold wirelessref43_Hash_l1
    rw [if_neg (df (by rw [len_nat]; omega))]) F 0 [] (by omega) (by simp) (by omega)
  rw [List.drop_zero] at this
  exact this
theorem hash_same (F:Nat) (db:List T_Attribute) (hdb:∀a∈db,AOk a) (hv:∀a∈db,a.Value.length≤8192) (hn:db.length≤1000) (hF:1000000020<F):∃y,database_Hash F db=some y∧wirelessref43_Hash F db=some y:=by
  have hi:=hbs_inv db [] hdb hv (by simp)
  obtain⟨x,h1,h2,h3⟩:=tag_same F (hbs db) hi.1 (Nat.le_trans hi.2 (by simp; omega)) hF
  obtain⟨y,h4,h5⟩:=derive_same F x h3 hF
  refine ⟨imax 1 y,?_,?_⟩
  · unfold database_Hash
    rw [u_hbs F db hdb hv hn (by omega),Option.bind_some]
    unfold database_Hash_j1
    rw [h1,Option.bind_some,h4,Option.bind_some]
  · unfold wirelessref43_Hash
    rw [r_hbs F db hdb hv hn (by omega),Option.bind_some]
    unfold wirelessref43_Hash_j1
    rw [h2,Option.bind_some,h5,Option.bind_some]
end V
end Go.Proofs.YtoahakdkgefgiaaGreat

namespace Go.Proofs.YtoahakdkgefgiaaGreat
namespace V
theorem upd_at {α:Type} {l:List α} {i:Nat} {x:α} (h:l[i]? = some x):upd l (i:Int) x=some l:=by
  obtain⟨h1,h2⟩:=List.getElem?_eq_some_iff.1 h
  unfold upd
  rw [if_pos ⟨by omega,by omega⟩,Int.toNat_natCast,← h2,List.set_getElem_self]
structure SvOk (s:T_Server):Prop where
  d:s.DB.length≤10000000
  dv:∀a∈s.DB,a.Value.length≤140737488355328
  q:s.Queue.length≤10000000
  qv:∀a∈s.Queue,a.Value.length≤140737488355328
  o:s.Out.length≤10000000
  ov:∀a∈s.Out,a.Value.length≤140737488355328
  sb:s.Subs.length≤10000000
theorem uof (F:Nat) (s:T_Server) (h:SvOk s) (hF:10000010<F):server_of F s=some (T_server_side.mk s []):=by
  obtain⟨h1,h2,h3,h4,h5,h6,h7⟩:=h
  unfold server_of
  rw [uattrs F s.DB h2 h1 (by omega),Option.bind_some,uclone F s.Subs h7,Option.bind_some]
  have e1:slices_Clone_api_Prepared_api_Prepared F s.Queue=some s.Queue:=by
    unfold slices_Clone_api_Prepared_api_Prepared
    rw [app_k (by decide) (by simp; omega),Option.bind_some,List.nil_append]
  have e2:slices_Clone_api_AttPDU_api_AttPDU F s.Out=some s.Out:=by
    unfold slices_Clone_api_AttPDU_api_AttPDU
    rw [app_k (by decide) (by simp; omega),Option.bind_some,List.nil_append]
  rw [e1,e2,Option.bind_some,Option.bind_some]
  show server_of_j1 F s s=_
  unfold server_of_j1
  have:=iter_count (body:=fun t:List T_Prepared×Int=>server_of_l2 F s t.1 t.2) (fun i=>(s.Queue,(i:Int))) s.Queue.length s.Queue (by
    intro i hi
    have hx:s.Queue[i]? = some s.Queue[i]:=List.getElem?_eq_getElem hi
    have hv:=h4 _ (List.getElem_mem hi)
    generalize s.Queue[i]=x at hx hv
    show server_of_l2 F s s.Queue (i:Int)=_
    unfold server_of_l2
    rw [if_pos (dt (by rw [len_nat]; omega)),idx_nat,hx]
    simp only [Option.bind_some]
    rw [join_one F _ (by omega) hv,Option.bind_some]
    have hu:upd s.Queue (i:Int) ({ x with Value:=x.Value }:T_Prepared)=some s.Queue:=upd_at hx
    rw [hu,Option.bind_some,w64_nat i (by omega)]) (by
    show server_of_l2 F s s.Queue (s.Queue.length:Int)=_
    unfold server_of_l2
    rw [if_neg (df (by rw [len_nat]; omega))]) F 0 (by omega) (by omega)
  rw [show ((0:Nat):Int)=0 from rfl] at this
  rw [this,Option.bind_some]
  unfold server_of_j2
  have:=iter_count (body:=fun t:List T_AttPDU×Int=>server_of_l1 F s t.1 t.2) (fun i=>(s.Out,(i:Int))) s.Out.length s.Out (by
    intro i hi
    have hx:s.Out[i]? = some s.Out[i]:=List.getElem?_eq_getElem hi
    have hv:=h6 _ (List.getElem_mem hi)
    generalize s.Out[i]=x at hx hv
    show server_of_l1 F s s.Out (i:Int)=_
    unfold server_of_l1
    rw [if_pos (dt (by rw [len_nat]; omega)),idx_nat,hx]
    simp only [Option.bind_some]
    rw [join_one F _ (by omega) hv,Option.bind_some]
    have hu:upd s.Out (i:Int) ({ x with Value:=x.Value }:T_AttPDU)=some s.Out:=upd_at hx
    rw [hu,Option.bind_some,w64_nat i (by omega)]) (by
    show server_of_l1 F s s.Out (s.Out.length:Int)=_
    unfold server_of_l1
    rw [if_neg (df (by rw [len_nat]; omega))]) F 0 (by omega) (by omega)
  rw [show ((0:Nat):Int)=0 from rfl] at this
  rw [this,Option.bind_some]
  rfl
theorem unew (F:Nat) {db:List T_Attribute} (hdb:∀a∈db,AOk a) (mx lv:Int) (rb:Bool) (aw:Int) {subs:List T_Subscription} (hn:db.length≤10000000) (hsn:subs.length≤10000000) (hF:db.length+25<F) (hF2:subs.length+25<F) :
    ∃x,server_New F db mx lv rb aw subs=some x∧((x.2≠0)∨(x=(mkS db mx lv rb aw subs,0)∧wirelessref43_Check F db=some 0∧23≤mx∧mx≤517)):=by
  obtain⟨e,h1,h2⟩:=check_same F db hdb (by omega) (by omega)
  unfold server_New
  rw [h1,Option.bind_some]
  by_cases he:(e != 0)=true
  · rw [if_pos he]
    exact⟨_,rfl,.inl (bne_iff_ne.1 he)⟩
  · rw [if_neg he]
    have he0:e=0:=by simpa using he
    subst he0
    have hg:=rcheck_all F db hdb (by omega) (by omega) h2
    split
    · exact⟨_,rfl,.inl (by decide)⟩
    · rename_i hrng
      simp only [Bool.or_eq_true,decide_eq_true_eq,not_or] at hrng
      obtain⟨o1,g1,g3⟩:=iter_by (body:=fun s:Int×Int=>server_New_l1 F db subs s.1 s.2)
        (fun s=>∃i:Nat,i≤subs.length∧s.2=(i:Int)) (fun a=>a = .inl ()∨∃x,a = .inr x∧x.2≠0) (fun s=>subs.length - s.2.toNat) (by
        rintro⟨last,x⟩ ⟨i,hi1,hx⟩
        simp only at hx
        subst hx
        show (∃t1,server_New_l1 F db subs last (i:Int)=some (.next t1)∧_)∨∃o1,server_New_l1 F db subs last (i:Int)=some (.done o1)∧_
        unfold server_New_l1
        by_cases hin:i<subs.length
        · have hx:subs[i]? = some subs[i]:=List.getElem?_eq_getElem hin
          generalize hq:subs[i]=s at hx
          rw [if_pos (dt (show (i:Int)<len subs by rw [len_nat]; omega)),idx_nat,hx,Option.bind_some]
          have hsub:∃y,server_subscribable F db s.Handle=some y:=by
            rcases usub F hdb hg s.Handle (by omega) (by omega) with ⟨k1,_⟩ | ⟨j,c,a,_,k1⟩
            · exact⟨_,k1⟩
            · exact⟨_,k1⟩
          obtain⟨y,hy⟩:=hsub
          rw [hy,Option.bind_some]
          split
          · exact .inr ⟨_,rfl,.inr ⟨_,rfl,by decide⟩⟩
          · split
            · exact .inr ⟨_,rfl,.inr ⟨_,rfl,by decide⟩⟩
            · split
              · exact .inr ⟨_,rfl,.inr ⟨_,rfl,by decide⟩⟩
              · exact .inl ⟨_,rfl,⟨i+1,by omega,w64_nat i (by omega)⟩,by simp only; rw [w64_nat i (by omega)]; omega⟩
        · rw [if_neg (df (show ¬ (i:Int)<len subs by rw [len_nat]; omega))]
          exact .inr ⟨_,rfl,.inl rfl⟩) F (0,0) ⟨0,by omega,rfl⟩ (by simp only; omega)
      rw [g1]
      rcases g3 with rfl | ⟨x,rfl,hx⟩
      · simp only [Option.bind_some]
        unfold server_New_j1
        rw [uattrs F db (fun a ha=>(hdb a ha).l) hn (by omega),uclone F subs hsn]
        refine ⟨_,rfl,.inr ⟨rfl,?_,by omega,by omega⟩⟩
        first | exact h2 | trivial
      · exact⟨_,rfl,.inl hx⟩
theorem ureplace (F:Nat) (s:T_Server) (h:SvOk s) {db:List T_Attribute} (hdb:∀a∈db,AOk a) (hsdb:∀a∈s.DB,AOk a) (hv:∀a∈db,a.Value.length≤8192) (hsv:∀a∈s.DB,a.Value.length≤8192) (hn:db.length≤1000) (hsn:s.DB.length≤1000) (hF:1000000020<F) :
    ∃r,server_Replace F s db=some r∧((r.1=s∧r.2≠0)∨(r.2=0∧((∃y,wirelessref43_Hash F s.DB=some y∧wirelessref43_Hash F db=some y∧r.1 = { s with DB:=db })∨∃subs out,subs.length≤s.Subs.length∧(out=[]∨∃hd,out=[T_AttPDU.mk 29 0 hd 0 (T_UUID.mk 0 0) 0 0 0 false [1,0,255,255] []])∧r.1 = { s with DB:=db,Queue:=[],Aware:=0,Subs:=subs,Out:=out }))):=by
  obtain⟨e,h1,h2⟩:=check_same F db hdb (by omega) (by omega)
  unfold server_Replace
  rw [uof F s h (by omega),Option.bind_some,h1,Option.bind_some]
  by_cases he:(e != 0)=true
  · rw [if_pos he]
    exact⟨_,rfl,.inl ⟨rfl,bne_iff_ne.1 he⟩⟩
  · rw [if_neg he]
    have he0:e=0:=by simpa using he
    subst he0
    have hg:=rcheck_all F db hdb (by omega) (by omega) h2
    obtain⟨y1,k1,k2⟩:=hash_same F db hdb hv hn hF
    obtain⟨y2,k3,k4⟩:=hash_same F s.DB hsdb hsv hsn hF
    rw [k1,Option.bind_some,k3,Option.bind_some]
    unfold server_Replace_j1
    rw [uattrs F db (fun a ha=>(hdb a ha).l) (by omega) (by omega),Option.bind_some]
    by_cases hy:(y1 == y2)=true
    · rw [if_pos hy]
      have:y1=y2:=by simpa using hy
      subst this
      exact⟨_,rfl,.inr ⟨rfl,.inl ⟨y1,k4,k2,rfl⟩⟩⟩
    · rw [if_neg hy]
      have hsb:=h.sb
      obtain⟨subs,g1,g2⟩:=iter_by (body:=fun t:List T_Subscription×Int=>server_Replace_l2 F db (T_server_side.mk s []) t.1 t.2) (fun t=>∃i:Nat,t.2=(i:Int)∧i≤s.Subs.length∧t.1.length≤i) (fun o=>o.length≤s.Subs.length) (fun t=>s.Subs.length - t.2.toNat) (by
        rintro⟨l,x⟩ ⟨i,hx,hi,hl⟩
        simp only at hx hl
        subst hx
        show (∃t1,server_Replace_l2 F db (T_server_side.mk s []) l (i:Int)=some (.next t1)∧_)∨∃o1,server_Replace_l2 F db (T_server_side.mk s []) l (i:Int)=some (.done o1)∧_
        unfold server_Replace_l2
        simp only
        by_cases hin:i<s.Subs.length
        · have hx:s.Subs[i]? = some s.Subs[i]:=List.getElem?_eq_getElem hin
          generalize hq:s.Subs[i]=b at hx
          rw [if_pos (dt (show (i:Int)<len s.Subs by rw [len_nat]; omega)),idx_nat,hx,Option.bind_some]
          have hsub:∃y,server_subscribable F db b.Handle=some y:=by
            rcases usub F hdb hg b.Handle (by omega) (by omega) with ⟨k1,_⟩ | ⟨j,c,a,_,k1⟩
            · exact⟨_,k1⟩
            · exact⟨_,k1⟩
          obtain⟨y,hy⟩:=hsub
          rw [hy,Option.bind_some]
          unfold server_Replace_j5
          split
          · rw [app_k (by decide) (by simp; omega),Option.bind_some]
            exact .inl ⟨_,rfl,⟨i+1,w64_nat i (by omega),by omega,by simp; omega⟩,by simp only; rw [w64_nat i (by omega)]; omega⟩
          · exact .inl ⟨_,rfl,⟨i+1,w64_nat i (by omega),by omega,by simp only; omega⟩,by simp only; rw [w64_nat i (by omega)]; omega⟩
        · rw [if_neg (df (show ¬ (i:Int)<len s.Subs by rw [len_nat]; omega))]
          exact .inr ⟨_,rfl,by omega⟩) F ([],0) ⟨0,rfl,by omega,by simp⟩ (by simp only; omega)
      rw [g1,Option.bind_some]
      unfold server_Replace_j2
      obtain⟨out,g3,g4⟩:=iter_by (body:=fun t:Int=>server_Replace_l1 F db subs t) (fun t=>∃i:Nat,t=(i:Int)∧i≤subs.length) (fun o=>o=[]∨∃hd,o=[T_AttPDU.mk 29 0 hd 0 (T_UUID.mk 0 0) 0 0 0 false [1,0,255,255] []]) (fun t=>subs.length - t.toNat) (by
        rintro t ⟨i,rfl,hi⟩
        show (∃t1,server_Replace_l1 F db subs (i:Int)=some (.next t1)∧_)∨∃o1,server_Replace_l1 F db subs (i:Int)=some (.done o1)∧_
        unfold server_Replace_l1
        by_cases hin:i<subs.length
        · have hx:subs[i]? = some subs[i]:=List.getElem?_eq_getElem hin
          generalize hq:subs[i]=b at hx
          rw [if_pos (dt (show (i:Int)<len subs by rw [len_nat]; omega)),idx_nat,hx,Option.bind_some,ufind F db _ (by omega) (by omega),Option.bind_some]
          unfold server_Replace_j4
          have hz:∃z,(if (((iand .i64 b.Bits 2) != 0)&&(decide (fnd db b.Handle≥0)))=true then
              (idx db (fnd db b.Handle)).bind fun x_15=>(server_is F x_15.f_Type 10757).bind fun x_16=>some (x_16)
            else some (false))=some z:=by
            split
            · rename_i hc
              rw [Bool.and_eq_true] at hc
              have hc:=of_decide_eq_true hc.2
              rcases fnd_cases db b.Handle with q | ⟨k,q,hk⟩
              · omega
              · rw [q,idx_nat,List.getElem?_eq_getElem hk,Option.bind_some,sis F _ _ (by decide) (by decide)]
                exact⟨_,rfl⟩
            · exact⟨_,rfl⟩
          obtain⟨z,hz⟩:=hz
          rw [hz,Option.bind_some]
          split
          · exact .inr ⟨_,rfl,.inr ⟨_,rfl⟩⟩
          · exact .inl ⟨_,rfl,⟨i+1,w64_nat i (by omega),by omega⟩,by rw [w64_nat i (by omega)]; omega⟩
        · rw [if_neg (df (show ¬ (i:Int)<len subs by rw [len_nat]; omega))]
          exact .inr ⟨_,rfl,.inl rfl⟩) F 0 ⟨0,rfl,by omega⟩ (by simp; omega)
      rw [g3,Option.bind_some]
      exact⟨_,rfl,.inr ⟨rfl,.inr ⟨subs,out,g2,g4,rfl⟩⟩⟩
structure IOk (x:T_AttItem):Prop where
  h0:0≤x.Handle
  h1:x.Handle<65536
  l0:0≤x.Last
  l1:x.Last<65536
  u:UOk x.f_Type
  v:x.Value.length≤140737488351232
structure POk (p:T_AttPDU):Prop where
  l:p.List.length≤140737488355328
  i:∀x∈p.List,IOk x
  h0:0≤p.Handle
  h1:p.Handle<65536
  u:UOk p.f_Type
  v:p.Value.length≤140737488355328
  b:∀x∈p.Value,Byte x
theorem fld7 (F:Nat) (z:Bool):∃u,wirelessref42_Fields_j7 F z=some u:=by
  unfold wirelessref42_Fields_j7
  split <;> exact⟨_,rfl⟩
theorem fld6 (F:Nat) (k:Int) (z:Bool):∃u,wirelessref42_Fields_j6 F k z=some u:=by
  unfold wirelessref42_Fields_j6
  repeat' split
  all_goals first | exact⟨_,rfl⟩ | exact fld7 F _
theorem fld5 (F:Nat) (k:Int) (z:Bool):∃u,wirelessref42_Fields_j5 F k z=some u:=by
  unfold wirelessref42_Fields_j5
  repeat' split
  all_goals first | exact⟨_,rfl⟩ | exact fld6 F _ _
theorem fld4 (F:Nat) (k:Int) (z:Bool):∃u,wirelessref42_Fields_j4 F k z=some u:=by
  unfold wirelessref42_Fields_j4
  repeat' split
  all_goals first | exact⟨_,rfl⟩ | exact fld5 F _ _
theorem fld3 (F:Nat) (k:Int) (z:Bool):∃u,wirelessref42_Fields_j3 F k z=some u:=by
  unfold wirelessref42_Fields_j3
  repeat' split
  all_goals first | exact⟨_,rfl⟩ | exact fld4 F _ _
theorem fld2 (F:Nat) (k:Int) (z:Bool):∃u,wirelessref42_Fields_j2 F k z=some u:=by
  unfold wirelessref42_Fields_j2
  repeat' split
  all_goals first | exact⟨_,rfl⟩ | exact fld3 F _ _
theorem fld1 (F:Nat) (k:Int) (z:Bool):∃u,wirelessref42_Fields_j1 F k z=some u:=by
  unfold wirelessref42_Fields_j1
  repeat' split
  all_goals first | exact⟨_,rfl⟩ | exact fld2 F _ _
theorem fld0 (F:Nat) (k:Int):∃u,wirelessref42_Fields F k=some u:=by
  unfold wirelessref42_Fields
  repeat' split
  all_goals first | exact⟨_,rfl⟩ | exact fld1 F _ _
theorem runused (F:Nat) (p:T_AttPDU):∃b,wirelessref42_unused F p=some b:=by
  unfold wirelessref42_unused
  obtain⟨u,h⟩:=fld0 F p.Kind
  rw [h,Option.bind_some]
  have hz:∃z,(if ((((!u.Asked)&&(p.Asked != 0))||((!u.Handle)&&(p.Handle != 0)))||((!u.Last)&&(p.Last != 0)))=true then some (true)
    else if (!u.f_Type)=true then some ((!((p.f_Type.High == 0)&&(p.f_Type.Low == 0)))) else some (false))=some z:=by
    repeat' split
    all_goals exact⟨_,rfl⟩
  obtain⟨z,hz⟩:=hz
  rw [hz,Option.bind_some]
  repeat' split
  all_goals exact⟨_,rfl⟩
theorem ritem (F:Nat) (k:Int) {x:T_AttItem} (h:IOk x) (hF:30<F):∃b,wirelessref42_itemBytes F k x=some b:=by
  obtain⟨h0,h1,l0,l1,hu,hv⟩:=h
  have p1:=rput_ok F x.Handle 2 (by omega) (by omega) h0 (by omega)
  have p2:=rput_ok F x.Last 2 (by omega) (by omega) l0 (by omega)
  rw [show ((2:Nat):Int)=2 from rfl] at p1 p2
  have hl:=encU_len x.f_Type
  unfold wirelessref42_itemBytes wirelessref42_itemBytes_j1
  rw [wu64_id h0 (by omega),p1,Option.bind_some,wu64_id l0 (by omega),p2,rencode F hu (by omega)]
  split
  · rw [Option.bind_some,app_cat (by rw [leb_length]; omega)]
    exact⟨_,rfl⟩
  · split
    · rw [Option.bind_some,app_cat (by rw [leb_length,leb_length]; decide),Option.bind_some,app_cat (by rw [List.length_append,leb_length,leb_length]; omega)]
      exact⟨_,rfl⟩
    · rw [app_cat (by rw [leb_length]; omega)]
      exact⟨_,rfl⟩
theorem rcheckItem (F:Nat) (k:Int) {l:List T_AttItem} (h:∀x∈l,IOk x) (i:Nat) (hi:i<l.length) (hl:l.length≤140737488355328) (hF:30<F):∃e,wirelessref42_checkItem F k l i=some e:=by
  have hx:l[i]? = some l[i]:=List.getElem?_eq_getElem hi
  have hok:=h _ (List.getElem_mem hi)
  generalize l[i]=x at hx hok
  have h0:l[0]? = some l[0]:=List.getElem?_eq_getElem (by omega)
  have hok0:=h _ (List.getElem_mem (show 0<l.length by omega))
  generalize l[0]=y at h0 hok0
  have i0:idx l 0=some y:=h0
  obtain⟨b1,k1⟩:=ritem F k hok hF
  obtain⟨b2,k2⟩:=ritem F k hok0 hF
  have hj:∀z,∃e,wirelessref42_checkItem_j1 F k l x z=some e:=by
    intro z
    unfold wirelessref42_checkItem_j1 wirelessref42_checkItem_j2
    split
    · exact⟨_,rfl⟩
    · rw [i0,Option.bind_some,k1,Option.bind_some,k2,Option.bind_some]
      split <;> exact⟨_,rfl⟩
  unfold wirelessref42_checkItem
  rw [idx_nat,hx,Option.bind_some]
  have hz:∃z,(if (!(k == 5))=true then some ((!((x.f_Type.High == 0)&&(x.f_Type.Low == 0)))) else some (false))=some z:=by
    split <;> exact⟨_,rfl⟩
  obtain⟨z,hz⟩:=hz
  rw [hz,Option.bind_some]
  split
  · exact⟨_,rfl⟩
  · split
    · exact⟨_,rfl⟩
    · split
      · rename_i hc
        have hc:=of_decide_eq_true hc
        have hp:l[i - 1]? = some l[i - 1]:=List.getElem?_eq_getElem (by omega)
        rw [w64_id (by omega) (by omega),show (i:Int) - 1=((i - 1:Nat):Int) from by omega,idx_nat,hp,Option.bind_some,Option.bind_some]
        exact hj _
      · exact hj _
theorem rcheckPDU (F:Nat) {p:T_AttPDU} (h:POk p) (hF:p.List.length+30<F):∃e,wirelessref42_Check F p=some e:=by
  unfold wirelessref42_Check
  obtain⟨u,hu⟩:=fld0 F p.Kind
  obtain⟨b,hb⟩:=runused F p
  have hlst:∃e,wirelessref42_checkList F p=some e:=by
    unfold wirelessref42_checkList
    split
    · exact⟨_,rfl⟩
    · rename_i hne
      have hpos:0<p.List.length:=by
        by_cases e:p.List.length=0
        · exact absurd (by rw [len_nat,e]; rfl) hne
        · omega
      have hl:=h.l
      obtain⟨o,g1,g2⟩:=iter_by (body:=fun s:Int=>wirelessref42_checkList_l1 F p s) (fun s=>∃i:Nat,s=(i:Int)∧i≤p.List.length) (fun _=>True) (fun s=>p.List.length - s.toNat) (by
        rintro s ⟨i,rfl,hi⟩
        show (∃s',wirelessref42_checkList_l1 F p (i:Int)=some (.next s')∧_)∨∃o,wirelessref42_checkList_l1 F p (i:Int)=some (.done o)∧_
        unfold wirelessref42_checkList_l1
        by_cases hin:i<p.List.length
        · rw [if_pos (dt (show (i:Int)<len p.List by rw [len_nat]; omega))]
          obtain⟨e,he⟩:=rcheckItem F p.Kind h.i i hin hl (by omega)
          rw [he,Option.bind_some]
          split
          · exact .inr ⟨_,rfl,trivial⟩
          · exact .inl ⟨_,rfl,⟨i+1,w64_nat i (by omega),by omega⟩,by rw [w64_nat i (by omega)]; omega⟩
        · rw [if_neg (df (show ¬ (i:Int)<len p.List by rw [len_nat]; omega))]
          exact .inr ⟨_,rfl,trivial⟩) F 0 ⟨0,rfl,by omega⟩ (by simp; omega)
      rw [g1,Option.bind_some]
      cases o with
      | inr e=>exact⟨_,rfl⟩
      | inl _=>
        have h0:p.List[0]? = some p.List[0]:=List.getElem?_eq_getElem hpos
        have hok0:=h.i _ (List.getElem_mem hpos)
        generalize p.List[0]=y at h0 hok0
        have i0:idx p.List 0=some y:=h0
        obtain⟨b2,k2⟩:=ritem F p.Kind hok0 (by omega)
        simp only
        unfold wirelessref42_checkList_j1 wirelessref42_checkList_j2
        rw [i0,Option.bind_some,k2,Option.bind_some]
        split <;> exact⟨_,rfl⟩
  obtain⟨e,he⟩:=hlst
  rw [hu,Option.bind_some,hb,Option.bind_some,he,Option.bind_some]
  repeat' split
  all_goals exact⟨_,rfl⟩
end V
end Go.Proofs.YtoahakdkgefgiaaGreat

namespace Go.Proofs.YtoahakdkgefgiaaGreat
namespace V
def rq (k:Int):Bool:=k == 2||(k == 4||(k == 8||(k == 10||(k == 12||(k == 16||(k == 18||(k == 22||k == 24)))))))
theorem ask_hash (F:Nat) (p:T_AttPDU):wirelesslaw45_readsHash F p=some (p.Kind == 8&&isN p.f_Type 11050):=by
  unfold wirelesslaw45_readsHash wirelesslaw45_readsHash_j1
  rw [rshort F _ (by decide) (by decide)]
  cases p.Kind == 8 <;> rfl
theorem hdl0 (F:Nat) {c:T_Server} (hc:SvOk c) (hr:c.Robust=true) (ha:c.Aware=0) (p:T_AttPDU) (hh:(p.Kind == 8&&isN p.f_Type 11050)=false) (hF:10000010<F) :
    server_Handle F c p 0=some (if rq p.Kind=true then ({ c with Aware:=1 },[T_AttPDU.mk 1 p.Kind p.Handle 0 (T_UUID.mk 0 0) 0 0 18 false [] []],[]) else (if (p.Kind == 30)=true then { c with Wait:=false } else c,[],[])):=by
  cases c with
  | mk cdb cmtu cmx clv cq caw crb csb cout cw csi=>
  simp only at hr ha
  subst hr
  subst ha
  unfold server_Handle
  rw [uof F _ hc hF,Option.bind_some]
  unfold server_side_handlers
  simp only [Option.bind_some]
  have hb:∀(j:Int×Bool→Option (T_Server×List T_AttPDU×List Int)),(if (p.Kind == 8)=true then (server_is F p.f_Type 11050).bind fun x=>(cache_Aware F 0 x).bind fun y=>j y else (cache_Aware F 0 false).bind fun y=>j y)=j (1,true):=by
    intro j
    by_cases h8:(p.Kind == 8)=true
    · rw [h8,Bool.true_and] at hh
      rw [if_pos h8,sis F _ _ (by decide) (by decide),hh]
      rfl
    · rw [if_neg h8]
      rfl
  by_cases h1:((p.Kind == 2)||((p.Kind == 4)||((p.Kind == 8)||((p.Kind == 16)||((p.Kind == 18)||((p.Kind == 22)||(p.Kind == 24)))))))=true
  · have hq:rq p.Kind=true∧(p.Kind == 30)=false∧(p.Kind == 82)=false:=by
      simp only [Bool.or_eq_true,beq_iff_eq] at h1
      rcases h1 with h | h | h | h | h | h | h <;> rw [h] <;> decide
    obtain⟨q1,q2,q3⟩:=hq
    rw [if_pos h1,if_pos q1,q2,q3,if_neg (by decide),if_neg (by decide),if_neg (by decide),if_pos trivial,hb (fun y=>server_Handle_j2 F p (T_server_side.mk (T_Server.mk cdb cmtu cmx clv cq 0 true csb cout cw csi) []) y.1 y.2)]
    rfl
  · rw [if_neg h1]
    by_cases h2:((p.Kind == 10)||(p.Kind == 12))=true
    · have hq:rq p.Kind=true∧(p.Kind == 30)=false∧(p.Kind == 82)=false:=by
        simp only [Bool.or_eq_true,beq_iff_eq] at h2
        rcases h2 with h | h <;> rw [h] <;> decide
      obtain⟨q1,q2,q3⟩:=hq
      rw [if_pos h2,if_pos q1,q2,q3,if_neg (by decide),if_neg (by decide),if_neg (by decide),if_pos trivial,hb (fun y=>server_Handle_j6 F p (T_server_side.mk (T_Server.mk cdb cmtu cmx clv cq 0 true csb cout cw csi) []) y.1 y.2)]
      rfl
    · have hq:¬ rq p.Kind=true:=by
        intro h
        unfold rq at h
        simp only [Bool.or_eq_true,beq_iff_eq,not_or] at h h1 h2
        omega
      rw [if_neg h2,if_neg hq]
      by_cases h30:(p.Kind == 30)=true
      · rw [if_pos h30,if_pos h30]
      · rw [if_neg h30,if_neg h30,if_neg (by simp),if_pos (by decide)]
theorem rans (F:Nat) (k:Int):(if (k != 29)=true then (wirelessref42_Answer F k).bind fun x=>some (decide (x≥0)) else some false)=some (rq k):=by
  by_cases h29:k=29
  · subst h29; rfl
  rw [if_pos (bne_iff_ne.2 h29)]
  unfold wirelessref42_Answer wirelessref42_Answer_j1
  by_cases a1:k=2
  · subst a1; rfl
  by_cases a2:k=4
  · subst a2; rfl
  by_cases a3:k=8
  · subst a3; rfl
  by_cases a4:k=10
  · subst a4; rfl
  by_cases a5:k=12
  · subst a5; rfl
  by_cases a6:k=16
  · subst a6; rfl
  by_cases a7:k=18
  · subst a7; rfl
  by_cases a8:k=22
  · subst a8; rfl
  by_cases a9:k=24
  · subst a9; rfl
  have e:rq k=false:=by
    unfold rq
    simp only [Bool.or_eq_false_iff,beq_eq_false_iff_ne]
    exact⟨a1,a2,a3,a4,a5,a6,a7,a8,a9⟩
  rw [e]
  simp [a1,a2,a3,a4,a5,a6,a7,a8,a9,h29]
def rpS (db:List T_Attribute) (subs:List T_Subscription) (out:List T_AttPDU) (w:Bool):T_Server:=T_Server.mk db 23 100 2 [] 0 true subs out w 0
theorem rp_ok {db:List T_Attribute} {subs:List T_Subscription} {out:List T_AttPDU} (w:Bool) (hdb:∀a∈db,AOk a) (hn:db.length≤80) (hs:subs.length≤100) (ho:out=[]∨∃hd,out=[T_AttPDU.mk 29 0 hd 0 (T_UUID.mk 0 0) 0 0 0 false [1,0,255,255] []]):SvOk (rpS db subs out w):=by
  refine ⟨show db.length≤_ by omega,fun a ha=>(hdb a ha).l,show (0:Nat)≤_ by omega,(fun a ha=>by cases ha),?_,?_,show subs.length≤_ by omega⟩
  · rcases ho with rfl | ⟨hd,rfl⟩
    · show (0:Nat)≤_; omega
    · show (1:Nat)≤_; omega
  · rcases ho with rfl | ⟨hd,rfl⟩
    · intro a ha; cases ha
    · intro a ha
      have:a=T_AttPDU.mk 29 0 hd 0 (T_UUID.mk 0 0) 0 0 0 false [1,0,255,255] []:=by simpa [rpS] using ha
      rw [this]
      show ([1,0,255,255]:List Int).length≤_
      decide
theorem refuse_loop {db:List T_Attribute} {subs:List T_Subscription} {out:List T_AttPDU} {l:List T_AttPDU} (w:Bool) (hdb:∀a∈db,AOk a) (hn:db.length≤80) (hs:subs.length≤100) (ho:out=[]∨∃hd,out=[T_AttPDU.mk 29 0 hd 0 (T_UUID.mk 0 0) 0 0 0 false [1,0,255,255] []]) (hl:l.length≤30) (hp:∀p∈l,POk p) :
    ∃o,iter (fun s:T_Server×Int=>wirelesslaw45_ServerRefuses_l1 FF l s.1 s.2) FF (rpS db subs out w,0)=some o∧(o = .inl ()∨o = .inr true):=by
  have hFF:FF=1125899906842624:=rfl
  refine iter_by (body:=fun s:T_Server×Int=>wirelesslaw45_ServerRefuses_l1 FF l s.1 s.2) (fun s=>∃(i:Nat) (v:Bool),s=(rpS db subs out v,(i:Int))∧i≤l.length) (fun o=>o = .inl ()∨o = .inr true) (fun s=>l.length - s.2.toNat) ?_ FF _ ⟨0,w,rfl,by omega⟩ (by simp only; omega)
  rintro s ⟨i,v,rfl,hi⟩
  show (∃s',wirelesslaw45_ServerRefuses_l1 FF l (rpS db subs out v) (i:Int)=some (.next s')∧_)∨∃o,wirelesslaw45_ServerRefuses_l1 FF l (rpS db subs out v) (i:Int)=some (.done o)∧_
  unfold wirelesslaw45_ServerRefuses_l1
  by_cases hin:i<l.length
  · have hx:l[i]? = some l[i]:=List.getElem?_eq_getElem hin
    have hok:=hp _ (List.getElem_mem hin)
    generalize l[i]=p at hx hok
    have hpl:=hok.l
    obtain⟨e,he⟩:=rcheckPDU FF hok (by omega)
    rw [if_pos (dt (show (i:Int)<len l by rw [len_nat]; omega)),idx_nat,hx,Option.bind_some,he,Option.bind_some]
    have hnext:∀v':Bool,(∃s',wirelesslaw45_ServerRefuses_j3 FF (i:Int) (rpS db subs out v')=some (.next s')∧(∃(i:Nat) (v:Bool),s'=(rpS db subs out v,(i:Int))∧i≤l.length)∧l.length - s'.2.toNat<l.length - (i:Int).toNat):=fun v'=>
      ⟨_,rfl,⟨i+1,v',by rw [w64_nat i (by omega)],by omega⟩,by simp only; rw [w64_nat i (by omega)]; omega⟩
    by_cases he0:(e != 0)=true
    · rw [if_pos he0]
      exact .inl (hnext v)
    · rw [if_neg he0,Option.bind_some,ask_hash,Option.bind_some]
      cases hh:(p.Kind == 8&&isN p.f_Type 11050) with
      | true=>exact .inr ⟨_,rfl,.inl rfl⟩
      | false=>
        rw [if_neg (by decide),Option.bind_some,hdl0 FF (rp_ok v hdb hn hs ho) rfl rfl p hh (by omega),Option.bind_some]
        by_cases hr:rq p.Kind=true
        · rw [if_pos hr]
          unfold wirelesslaw45_ServerRefuses_j4
          simp only
          rw [if_neg (show ¬ decide (len ([]:List Int) > 0)=true by decide)]
          show (∃s',((wirelessref43_SameDB FF db db).bind _).bind _=_∧_)∨∃o,((wirelessref43_SameDB FF db db).bind _).bind _=_∧_
          rw [sameDB FF db (by omega) (by omega),Option.bind_some,Option.bind_some]
          show (∃s',((wirelessref45_SameSubs FF subs subs).bind _).bind _=_∧_)∨∃o,((wirelessref45_SameSubs FF subs subs).bind _).bind _=_∧_
          rw [sameSubs FF subs (by omega) (by omega),Option.bind_some,Option.bind_some]
          rw [if_neg (by simp [rpS,len]),idx_nat,hx,Option.bind_some]
          have hra:=rans FF p.Kind
          rw [Option.bind_some,hra,Option.bind_some,if_pos hr]
          refine .inr ⟨.inr true,(if_pos rfl).trans ?_,.inr rfl⟩
          have i0:∀q:T_AttPDU,idx [q] 0=some q:=fun _=>rfl
          rw [i0]
          simp only [Option.bind_some,beq_self_eq_true,if_true,example_ok]
          rfl
        · rw [if_neg hr]
          unfold wirelesslaw45_ServerRefuses_j4
          simp only
          have hc:(if (p.Kind == 30)=true then { rpS db subs out v with Wait:=false } else rpS db subs out v)=rpS db subs out (if (p.Kind == 30)=true then false else v):=by
            split <;> rfl
          rw [hc]
          rw [if_neg (show ¬ decide (len ([]:List Int) > 0)=true by decide)]
          show (∃s',((wirelessref43_SameDB FF db db).bind _).bind _=_∧_)∨∃o,((wirelessref43_SameDB FF db db).bind _).bind _=_∧_
          rw [sameDB FF db (by omega) (by omega),Option.bind_some,Option.bind_some]
          show (∃s',((wirelessref45_SameSubs FF subs subs).bind _).bind _=_∧_)∨∃o,((wirelessref45_SameSubs FF subs subs).bind _).bind _=_∧_
          rw [sameSubs FF subs (by omega) (by omega),Option.bind_some,Option.bind_some]
          rw [if_neg (by simp [rpS,len]),idx_nat,hx,Option.bind_some]
          have hra:=rans FF p.Kind
          rw [Option.bind_some,hra,Option.bind_some,if_neg hr,if_neg (show ¬ decide (len ([]:List T_AttPDU) > 0)=true by decide)]
          exact .inl (hnext _)
  · rw [if_neg (df (show ¬ (i:Int)<len l by rw [len_nat]; omega))]
    exact .inr ⟨_,rfl,.inl rfl⟩
theorem refuses_law (dbs:List T_Attribute×List T_Attribute) (subs:List T_Subscription) (l:List T_AttPDU) (h1:∀a∈dbs.1,AOk a) (h2:∀a∈dbs.2,AOk a) (n1:dbs.1.length≤140737488355328) (n2:dbs.2.length≤140737488355328) (hp:∀p∈l,POk p):wirelesslaw45_ServerRefuses FF dbs subs l=some true:=by
  have hFF:FF=1125899906842624:=rfl
  obtain⟨b1,g1,g2⟩:=light_ok FF dbs.1 (by omega) (by decide)
  obtain⟨b2,g3,g4⟩:=light_ok FF dbs.2 (by omega) (by decide)
  unfold wirelesslaw45_ServerRefuses
  rw [g1,Option.bind_some,g3]
  have hz:((if (!b1)=true then some true else (some b2).bind fun x=>some (!x)):Option Bool)=some (!b1 || !b2):=by cases b1 <;> rfl
  rw [hz,Option.bind_some]
  by_cases hq:(((!b1 || !b2)||decide (len subs > 100))||decide (len l > 30))=true
  · rw [if_pos hq,example_ok]; rfl
  · rw [if_neg hq]
    simp only [Bool.or_eq_true,Bool.not_eq_true',decide_eq_true_eq,not_or,Bool.not_eq_false] at hq
    obtain⟨⟨⟨q1,q2⟩,q3⟩,q4⟩:=hq
    obtain⟨m1,v1⟩:=g2 q1
    obtain⟨m2,v2⟩:=g4 q2
    rw [len_nat] at q3 q4
    obtain⟨x,k1,k2⟩:=unew FF h1 100 2 true 2 (subs:=subs) (by omega) (by omega) (by omega) (by omega)
    rw [k1,Option.bind_some]
    have hex:wirelesslaw45_ServerRefuses_j1 FF dbs l x true=some true:=by
      unfold wirelesslaw45_ServerRefuses_j1
      rw [if_pos rfl,example_ok]; rfl
    rcases k2 with k2 | ⟨rfl,k3,_⟩
    · rw [if_pos (bne_iff_ne.2 k2),hex]
    · rw [if_neg (by simp)]
      obtain⟨e,_,he⟩:=check_same FF dbs.2 h2 (by omega) (by omega)
      rw [he,Option.bind_some]
      by_cases he0:(e != 0)=true
      · rw [if_pos he0,hex]
      · rw [if_neg he0]
        obtain⟨y1,_,c1⟩:=hash_same FF dbs.1 h1 (fun a ha=>by have:=v1 a ha; omega) (by omega) (by omega)
        obtain⟨y2,_,c2⟩:=hash_same FF dbs.2 h2 (fun a ha=>by have:=v2 a ha; omega) (by omega) (by omega)
        rw [c1,c2,Option.bind_some,Option.bind_some]
        by_cases hy:y1=y2
        · rw [show (y1 == y2)=true by simpa using hy,hex]
        · rw [show (y1 == y2)=false by simpa using hy]
          unfold wirelesslaw45_ServerRefuses_j1
          rw [if_neg (by decide)]
          have hsv:SvOk (mkS dbs.1 100 2 true 2 subs):=⟨show dbs.1.length≤_ by omega,fun a ha=>(h1 a ha).l,show (0:Nat)≤_ by omega,(fun a ha=>by cases ha),show (0:Nat)≤_ by omega,(fun a ha=>by cases ha),show subs.length≤_ by omega⟩
          obtain⟨r,r1,r2⟩:=ureplace FF (mkS dbs.1 100 2 true 2 subs) hsv h2 h1 (fun a ha=>by have:=v2 a ha; omega) (fun a ha=>by have:=v1 a ha; omega) (by omega) (show dbs.1.length≤_ by omega) (by omega)
          simp only
          rw [r1,Option.bind_some]
          rcases r2 with ⟨_,r3⟩ | ⟨r3,⟨y,r4,r5,_⟩ | ⟨sb,out,r4,r5,r6⟩⟩
          · exfalso
            have he1:e=0:=by simpa using he0
            subst he1
            obtain⟨e',j1,j2⟩:=check_same FF dbs.2 h2 (by omega) (by omega)
            rw [he] at j2
            injection j2 with j2
            subst j2
            unfold server_Replace at r1
            rw [uof FF _ hsv (by omega),Option.bind_some,j1,Option.bind_some,if_neg (by decide)] at r1
            obtain⟨a1,a2,a3⟩:=hash_same FF dbs.2 h2 (fun a ha=>by have:=v2 a ha; omega) (by omega) (by omega)
            obtain⟨a4,a5,a6⟩:=hash_same FF dbs.1 h1 (fun a ha=>by have:=v1 a ha; omega) (by omega) (by omega)
            rw [a2,Option.bind_some] at r1
            have a5':database_Hash FF (T_server_side.mk (mkS dbs.1 100 2 true 2 subs) []).Server.DB=some a4:=a5
            rw [a5',Option.bind_some] at r1
            unfold server_Replace_j1 at r1
            rw [uattrs FF dbs.2 (fun a ha=>(h2 a ha).l) (by omega) (by omega),Option.bind_some] at r1
            split at r1
            · injection r1 with r1; rw [← r1] at r3; exact r3 rfl
            · obtain⟨o,_,r1⟩:=Option.bind_eq_some_iff.1 r1
              unfold server_Replace_j2 at r1
              obtain⟨o2,_,r1⟩:=Option.bind_eq_some_iff.1 r1
              unfold server_Replace_j3 at r1
              injection r1 with r1; rw [← r1] at r3; exact r3 rfl
          · exfalso
            have r4':wirelessref43_Hash FF dbs.1=some y:=r4
            rw [c1] at r4'
            rw [c2] at r5
            injection r4' with r4'
            injection r5 with r5
            exact hy (r4'.trans r5.symm)
          · have hrS:r.1=rpS dbs.2 sb out false:=r6
            rw [r3,hrS]
            rw [if_neg (by decide)]
            show ((wirelessref43_SameDB FF dbs.2 dbs.2).bind _).bind _=_
            rw [sameDB FF dbs.2 (by omega) (by omega),Option.bind_some,Option.bind_some,if_neg (by decide)]
            have hsb:sb.length≤100:=by
              have:sb.length≤subs.length:=r4
              omega
            obtain⟨o,o1,o2⟩:=refuse_loop (l:=l) false h2 (by omega) hsb r5 (by omega) hp
            rw [o1,Option.bind_some]
            rcases o2 with rfl | rfl
            · show wirelesslaw45_ServerRefuses_j2 FF=_
              unfold wirelesslaw45_ServerRefuses_j2
              rw [example_ok]; rfl
            · rfl
end V
end Go.Proofs.YtoahakdkgefgiaaGreat
