/- Numbers and bytes of chapter 43: Put and Num of the referenc -/
import Derived.Test.YtoahakdkgefgiaaGreatLoop
import Derived.Test.YtoahakdkgefgiaaGreatFn
import Derived.KernelRfl
namespace Go.Proofs.YtoahakdkgefgiaaGreat
namespace V
def FF:Nat:=1125899906842624
def Byte (x:Int):Prop:=0≤x∧x<256
def leb:Nat→Int→List Int
  | 0,_=>[]
  | k+1,n=>n % 256::leb k (n / 256)
def num:List Int→Int
  | []=>0
  | b::r=>b+256 * num r
theorem lL:∀k n,(leb k n).length=k
  | 0,_=>rfl
  | k+1,n=>by simp [leb,lL k]
theorem leb_byte:∀k n,∀x∈leb k n,Byte x
  | 0,_,x,h=>by cases h
  | k+1,n,x,h=>by
    rcases List.mem_cons.1 h with rfl | h
    · exact⟨Int.emod_nonneg _ (by decide),Int.emod_lt_of_pos _ (by decide)⟩
    · exact leb_byte k _ x h
theorem pow_succ256 (k:Nat):(256:Int) ^ (k+1)=256 * 256 ^ k:=by rw [Int.pow_succ,Int.mul_comm]
theorem pow_pos256 (k:Nat):(0:Int)<256 ^ k:=Int.pow_pos (by decide)
theorem leb_snoc:∀(k:Nat) (n:Int),leb (k+1) n=leb k n++[n / 256 ^ k % 256]
  | 0,n=>by simp [leb]
  | k+1,n=>by
    have:=leb_snoc k (n / 256)
    rw [leb,this,leb,List.cons_append,pow_succ256,Int.ediv_ediv_of_nonneg (by decide:(0:Int)≤256)]
theorem num_nonneg:∀{l:List Int},(∀x∈l,Byte x)→0≤num l
  | [],_=>by simp [num]
  | b::r,h=>by
    have h1:=(h b (by simp)).1
    have h2:=num_nonneg (l:=r) fun x hx=>h x (by simp [hx])
    simp only [num]; omega
theorem num_lt:∀{l:List Int},(∀x∈l,Byte x)→num l<256 ^ l.length
  | [],_=>by simp [num]
  | b::r,h=>by
    have h1:=(h b (by simp)).2
    have h2:=num_lt (l:=r) fun x hx=>h x (by simp [hx])
    simp only [num,List.length_cons,pow_succ256]; omega
theorem num_append:∀(l m:List Int),num (l++m)=num l+256 ^ l.length * num m
  | [],m=>by simp [num]
  | b::r,m=>by
    simp only [List.cons_append,num,List.length_cons,pow_succ256,num_append r m,Int.mul_add,Int.mul_assoc]
    omega
theorem tmod256 {n:Int} (h:0≤n):n.tmod 256=n % 256:=Int.tmod_eq_emod_of_nonneg h
theorem tdiv256 {n:Int} (h:0≤n):n.tdiv 256=n / 256:=Int.tdiv_eq_ediv_of_nonneg h
theorem app_cat {l m:List Int} (h:l.length+m.length≤140737488355328):app 1 l m=some (l++m):=by
  rw [app_small (by omega) (by omega)]
theorem join_step (F:Nat) (ps:List (List Int)) (l:List Int) (i:Nat) (x:List Int) (hx:ps[i]? = some x) (hl:l.length+x.length≤140737488355328) (hi:ps.length≤9000000000000000000):qg F ps l i=some (.next (l++x,((i+1:Nat):Int))):=by
  have hlt:i<ps.length:=(List.getElem?_eq_some_iff.1 hx).1
  unfold qg
  have hd:decide ((i:Int)<len ps)=true:=by simp [len]; omega
  rw [if_pos hd,dN,hx]
  simp only [Option.bind_some]
  rw [app_cat hl]
  simp only [Option.bind_some]
  rw [wN i (by omega)]
theorem join_two (F:Nat) (a b:List Int) (hF:2<F) (h:a.length+b.length≤140737488355328):q5 F [a,b]=some (a++b):=by
  unfold q5
  obtain⟨F',rfl⟩:∃F',F=F'+1+1+1:=⟨F - 3,by omega⟩
  have h1:qg (F'+1+1+1) [a,b] [] 0=some (.next (a,1)):=by simpa using join_step (F'+1+1+1) [a,b] [] 0 a rfl (by simp; omega) (by simp)
  have h2:qg (F'+1+1+1) [a,b] a 1=some (.next (a++b,2)):=by simpa using join_step (F'+1+1+1) [a,b] a 1 b rfl (by omega) (by simp)
  rw [iter_step h1,iter_step h2,iter_stop (o:=a++b) (by unfold qg; rw [if_neg (by simp [len])])]
  rfl
theorem join_one (F:Nat) (a:List Int) (hF:1<F) (h:a.length≤140737488355328):q5 F [a]=some a:=by
  unfold q5
  obtain⟨F',rfl⟩:∃F',F=F'+1+1:=⟨F - 2,by omega⟩
  have h1:qg (F'+1+1) [a] [] 0=some (.next (a,1)):=by simpa using join_step (F'+1+1) [a] [] 0 a rfl (by simp; omega) (by simp)
  rw [iter_step h1,iter_stop (o:=a) (by unfold qg; rw [if_neg (by simp [len])])]
  rfl
theorem nat_or_add (a b i:Nat) (ha:a<2 ^ i):a ||| (b * 2 ^ i)=a+b * 2 ^ i:=by
  have h:=Nat.shiftLeft_add_eq_or_of_lt ha b
  rw [Nat.shiftLeft_eq] at h
  rw [Nat.or_comm,← h,Nat.add_comm]
theorem pow256 (i:Nat):(256:Int) ^ i=((2 ^ (8 * i):Nat):Int):=by
  rw [Nat.pow_mul,show (2:Nat) ^ 8=256 from by decide]
  exact (congrArg (fun z:Int=>z ^ i) (rfl:(256:Int)=((256:Nat):Int))).trans (Int.natCast_pow 256 i).symm
theorem ior_add (a b:Int) (i:Nat) (hi:i<8) (h0:0≤a) (h1:a<256 ^ i) (h2:Byte b):ior .u64 a (b * 256 ^ i)=a+b * 256 ^ i:=by
  obtain⟨b0,b1⟩:=h2
  obtain⟨a,rfl⟩:=Int.eq_ofNat_of_zero_le h0
  obtain⟨b,rfl⟩:=Int.eq_ofNat_of_zero_le b0
  have hp:=pow256 i
  rw [hp] at h1 ⊢
  have ha:a<2 ^ (8 * i):=by exact_mod_cast h1
  have hb:b<256:=by omega
  have hle:(2:Nat) ^ (8 * i)≤2 ^ 56:=Nat.pow_le_pow_right (by decide) (by omega)
  have hbl:b * 2 ^ (8 * i)<2 ^ 64:=by
    have:b * 2 ^ (8 * i)≤255 * 2 ^ 56:=Nat.mul_le_mul (by omega) hle
    omega
  have hs:a+b * 2 ^ (8 * i)<2 ^ 64:=by
    have:(b+1) * 2 ^ (8 * i)≤256 * 2 ^ 56:=Nat.mul_le_mul (by omega) hle
    rw [Nat.add_mul] at this
    omega
  unfold ior
  have e:((b:Int) * ((2 ^ (8 * i):Nat):Int))=((b * 2 ^ (8 * i):Nat):Int):=by rw [Int.natCast_mul]
  have e2:(BitVec.ofInt IntKind.u64.bits (a:Int) ||| BitVec.ofInt IntKind.u64.bits ((b:Int) * ((2 ^ (8 * i):Nat):Int))).toNat=a+b * 2 ^ (8 * i):=by
    rw [e,BitVec.toNat_or]
    show (BitVec.ofInt 64 (a:Int)).toNat ||| (BitVec.ofInt 64 ((b * 2 ^ (8 * i):Nat):Int)).toNat=_
    rw [BitVec.toNat_ofInt,BitVec.toNat_ofInt]
    rw [show (((a:Nat):Int) % ((2 ^ 64:Nat):Int)).toNat=a from by rw [← Int.natCast_emod,Int.toNat_natCast,Nat.mod_eq_of_lt (by omega)]]
    rw [show (((b * 2 ^ (8 * i):Nat):Int) % ((2 ^ 64:Nat):Int)).toNat=b * 2 ^ (8 * i) from by rw [← Int.natCast_emod,Int.toNat_natCast,Nat.mod_eq_of_lt hbl]]
    exact nat_or_add a b (8 * i) ha
  rw [e2,wrap_u64]
  unfold wu64
  rw [Int.natCast_add,Int.natCast_mul]
  rw [show ((a:Int)+(b:Int) * ((2 ^ (8 * i):Nat):Int))=((a+b * 2 ^ (8 * i):Nat):Int) from by rw [Int.natCast_add,Int.natCast_mul]]
  omega
theorem pow2_nat (i:Nat):(2:Int) ^ (8 * i)=((2 ^ (8 * i):Nat):Int):=(congrArg (fun z:Int=>z ^ (8 * i)) (rfl:(2:Int)=((2:Nat):Int))).trans (Int.natCast_pow 2 (8 * i)).symm
theorem shl_le (x i:Nat) (h1:(x:Int)<256) (hi:i<8):x * 2 ^ (8 * i)≤255 * 2 ^ 56:=by
  have hle:(2:Nat) ^ (8 * i)≤2 ^ 56:=Nat.pow_le_pow_right (by decide) (by omega)
  exact Nat.mul_le_mul (by omega) hle
theorem wu64_le (q:Nat) (hb:q≤255 * 2 ^ 56):wu64 (q:Int)=q:=by
  rw [wu64_id (by omega) (by omega)]
theorem shl_core (x i:Nat) (hi:i<8):ishl .u64 (x:Int) (8 * i)=some (IntKind.u64.wrap ((x:Int) * 2 ^ (8 * i))):=by
  unfold ishl
  rw [if_neg (by omega)]
  have e1:min (8 * (i:Int)).toNat IntKind.u64.bits=8 * i:=by
    show min (8 * (i:Int)).toNat 64=8 * i
    omega
  rw [e1]
theorem shl_bytes {x:Int} (hx:Byte x) (i:Nat) (hi:i<8):ishl .u64 (wu64 x) (w64 (8 * i))=some (x * 256 ^ i):=by
  obtain⟨h0,h1⟩:=hx
  obtain⟨x,rfl⟩:=Int.eq_ofNat_of_zero_le h0
  have e1:w64 (8 * (i:Int))=8 * i:=w64_id (by omega) (by omega)
  have e2:wu64 (x:Int)=x:=wu64_id (by omega) (by omega)
  have e3:=wu64_le _ (shl_le x i h1 hi)
  rw [Int.natCast_mul,← pow2_nat] at e3
  have e4:(256:Int) ^ i=2 ^ (8 * i):=(pow256 i).trans (pow2_nat i).symm
  rw [e1,e2,shl_core x i hi,wrap_u64,e3,e4]
end V
end Go.Proofs.YtoahakdkgefgiaaGreat

namespace Go.Proofs.YtoahakdkgefgiaaGreat
namespace V
theorem iter_find {S O α:Type} {body:S→Option (Out S O)} (st:Nat→S) {l:List α} {p:α→Bool} {g:Nat→O} {e:O} (h:∀(i:Nat) x,l[i]? = some x→body (st i)=some (if p x=true then .done (g i) else .next (st (i+1)))) (he:body (st l.length)=some (.done e)) :
    ∀(F i:Nat),i≤l.length→l.length - i<F→iter body F (st i)=some (match (l.drop i).findIdx? p with | some k=>g (i+k) | none=>e)
  | 0,i,_,hF=>by omega
  | F+1,i,hi,hF=>by
    by_cases hin:i<l.length
    · have hx:l[i]? = some l[i]:=List.getElem?_eq_getElem hin
      have hdr:l.drop i=l[i]::l.drop (i+1):=List.drop_eq_getElem_cons hin
      have hb:=h i _ hx
      by_cases hp:p l[i]=true
      · rw [if_pos hp] at hb
        rw [iter_stop hb,hdr,List.findIdx?_cons,hp]
        rfl
      · rw [if_neg hp] at hb
        rw [iter_step hb,iter_find st h he F (i+1) hin (by omega),hdr,List.findIdx?_cons,if_neg hp]
        cases (l.drop (i+1)).findIdx? p with
        | none=>rfl
        | some k=>simp only [Option.map_some]; rw [show i+1+k=i+(k+1) from by omega]
    · have:i=l.length:=by omega
      subst this
      rw [iter_stop he,List.drop_length]
      rfl
theorem df {p:Prop} [Decidable p] (h:¬ p):¬ decide p=true:=by simpa using h
def sht (n:Int):Tx0:=Tx0.mk (n * 4294967296+4096) 9223372588214596859
structure UOk (u:Tx0):Prop where
  h0:0≤u.High
  h1:u.High<18446744073709551616
  l0:0≤u.Low
  l1:u.Low<18446744073709551616
theorem sht_ok {n:Int} (h0:0≤n) (h1:n<65536):UOk (sht n):=⟨by simp only [sht]; omega,by simp only [sht]; omega,by simp only [sht]; omega,by simp only [sht]; omega⟩
theorem rshort (F:Nat) (n:Int) (h0:0≤n) (h1:n<65536):qa F n=some (sht n):=by
  unfold qa sht
  rw [wu64_id (x:=n) (by omega) (by omega),wu64_id (x:=n * 4294967296) (by omega) (by omega),wu64_id (by omega) (by omega)]
theorem ofInt_nat (w a:Nat) (h:a<2 ^ w):(BitVec.ofInt w (a:Int)).toNat=a:=by
  rw [BitVec.toNat_ofInt,← Int.natCast_emod,Int.toNat_natCast,Nat.mod_eq_of_lt h]
theorem ior64 (a b:Nat) (ha:a<2 ^ 64) (hb:b<2 ^ 64):ior .u64 (a:Int) (b:Int)=((a ||| b:Nat):Int):=by
  have h:=Nat.or_lt_two_pow ha hb
  unfold ior
  have e:(BitVec.ofInt IntKind.u64.bits (a:Int) ||| BitVec.ofInt IntKind.u64.bits (b:Int)).toNat=a ||| b:=by
    rw [BitVec.toNat_or]
    show (BitVec.ofInt 64 (a:Int)).toNat ||| (BitVec.ofInt 64 (b:Int)).toNat=_
    rw [ofInt_nat 64 a ha,ofInt_nat 64 b hb]
  rw [e,wrap_u64,wu64_id (by omega) (by omega)]
theorem ior16 (a b:Nat) (ha:a<2 ^ 16) (hb:b<2 ^ 16):ior .u16 (a:Int) (b:Int)=((a ||| b:Nat):Int):=by
  have h:=Nat.or_lt_two_pow ha hb
  unfold ior
  have e:(BitVec.ofInt IntKind.u16.bits (a:Int) ||| BitVec.ofInt IntKind.u16.bits (b:Int)).toNat=a ||| b:=by
    rw [BitVec.toNat_or]
    show (BitVec.ofInt 16 (a:Int)).toNat ||| (BitVec.ofInt 16 (b:Int)).toNat=_
    rw [ofInt_nat 16 a ha,ofInt_nat 16 b hb]
  rw [e,wrap_u16,wu16_id (by omega) (by omega)]
theorem ushort (F:Nat) (n:Int) (h0:0≤n) (h1:n<65536):q1f F n=some (sht n):=by
  unfold q1f sht
  obtain⟨n,rfl⟩:=Int.eq_ofNat_of_zero_le h0
  have e:shlp .u64 (wu64 (n:Int)) 32=((n * 2 ^ 32:Nat):Int):=by
    unfold shlp
    rw [wu64_id (by omega) (by omega),wrap_u64,show (n:Int) * 2 ^ 32=((n * 2 ^ 32:Nat):Int) from by rw [Int.natCast_mul]; rfl,wu64_id (by omega) (by omega)]
  rw [e,show (4096:Int)=((4096:Nat):Int) from rfl,ior64 _ _ (by omega) (by omega),Nat.or_comm,nat_or_add _ _ 32 (by decide)]
  congr 2
  omega
theorem word16 {x y:Int} (hx:Byte x) (hy:Byte y):ior .u16 (wu16 x) (shlp .u16 (wu16 y) 8)=x+256 * y:=by
  obtain⟨x0,x1⟩:=hx
  obtain⟨y0,y1⟩:=hy
  obtain⟨x,rfl⟩:=Int.eq_ofNat_of_zero_le x0
  obtain⟨y,rfl⟩:=Int.eq_ofNat_of_zero_le y0
  have e:shlp .u16 (wu16 (y:Int)) 8=((y * 2 ^ 8:Nat):Int):=by
    unfold shlp
    rw [wu16_id (by omega) (by omega),wrap_u16,show (y:Int) * 2 ^ 8=((y * 2 ^ 8:Nat):Int) from by rw [Int.natCast_mul]; rfl,wu16_id (by omega) (by omega)]
  rw [e,wu16_id (by omega) (by omega),ior16 _ _ (by omega) (by omega),nat_or_add _ _ 8 (by omega)]
  omega
theorem shrp_eq (x:Int) (n:Nat):shrp x n=x / 2 ^ n:=by
  unfold shrp
  rw [Int.fdiv_eq_ediv_of_nonneg _ (Int.le_of_lt (Int.pow_pos (by decide)))]
theorem ubytes (F:Nat) (u:Tx0):qq F u=some (u.Low % 256,u.Low / 256 % 256,u.Low / 65536 % 256,u.Low / 16777216 % 256,u.Low / 4294967296 % 256,u.Low / 1099511627776 % 256,u.Low / 281474976710656 % 256,u.Low / 72057594037927936 % 256,u.High % 256,u.High / 256 % 256,u.High / 65536 % 256,u.High / 16777216 % 256,u.High / 4294967296 % 256,u.High / 1099511627776 % 256,u.High / 281474976710656 % 256,u.High / 72057594037927936 % 256):=by
  simp only [qq,q5l,q5k,q5j,q5i,q5h,q5g,q5f,q5e,q5d,shrp_eq,wu8,Int.reducePow,Int.ediv_one]
def numb (u:Tx0):Int×Bool:=if u.Low=9223372588214596859∧u.High % 4294967296=4096∧u.High / 4294967296<65536 then (u.High / 4294967296,true) else (0,false)
theorem unumber (F:Nat) {u:Tx0} (hu:UOk u):qu F u=some (numb u):=by
  obtain⟨h0,h1,l0,l1⟩:=hu
  unfold qu
  rw [ubytes,Option.bind_some,show qq F (Tx0.mk 4096 9223372588214596859)=some (251,52,155,95,128,0,0,128,0,16,0,0,0,0,0,0) from by rw [ubytes]; rfl,Option.bind_some]
  unfold q5m numb
  by_cases h:u.Low=9223372588214596859∧u.High % 4294967296=4096∧u.High / 4294967296<65536
  · rw [if_pos h]
    obtain⟨h2,h3,h4⟩:=h
    rw [if_neg (by
      rw [Bool.not_eq_true']
      simp only [Bool.not_eq_false,Bool.and_eq_true,beq_iff_eq]
      refine ⟨by omega,by omega,by omega,by omega,by omega,by omega,by omega,by omega,by omega,by omega,by omega,by omega,trivial,trivial,by omega,by omega⟩)]
    simp only
    rw [word16 ⟨by omega,by omega⟩ ⟨by omega,by omega⟩]
    congr 2
    omega
  · rw [if_neg h,if_pos (by
      rw [Bool.not_eq_true',Bool.eq_false_iff]
      intro hc
      simp only [Bool.and_eq_true,beq_iff_eq] at hc
      exact h (by omega))]
theorem rnumber (F:Nat) {u:Tx0} (hu:UOk u):q2x F u=some (numb u):=by
  obtain⟨h0,h1,l0,l1⟩:=hu
  unfold q2x numb
  have e:quop .u64 u.High 4294967296=u.High / 4294967296:=by
    unfold quop
    rw [Int.tdiv_eq_ediv_of_nonneg h0,wrap_u64,wu64_id (by omega) (by omega)]
  rw [e]
  by_cases hb:u.High / 4294967296 > 65535
  · rw [if_pos (by simpa using hb),if_neg (by omega)]
    rfl
  · rw [if_neg (by simpa using hb),wu16_id (by omega) (by omega),rshort _ _ (by omega) (by omega),Option.bind_some]
    unfold q4h sht
    simp only
    by_cases h:u.Low=9223372588214596859∧u.High % 4294967296=4096∧u.High / 4294967296<65536
    · rw [if_pos h,if_neg (by
        rw [Bool.not_eq_true']
        simp only [Bool.not_eq_false,Bool.and_eq_true,beq_iff_eq]
        omega),e,wu16_id (by omega) (by omega)]
    · rw [if_neg h,if_pos (by
        rw [Bool.not_eq_true',Bool.eq_false_iff]
        intro hc
        simp only [Bool.and_eq_true,beq_iff_eq] at hc
        exact h (by omega))]
def isN (u:Tx0) (n:Int):Bool:=u.High == n * 4294967296+4096&&u.Low == 9223372588214596859
theorem isN_num {u:Tx0} {n:Int} (h0:0≤n) (h1:n<65536):((numb u).2&&(n == (numb u).1))=isN u n:=by
  unfold numb isN
  by_cases h:u.Low=9223372588214596859∧u.High % 4294967296=4096∧u.High / 4294967296<65536
  · rw [if_pos h]
    obtain⟨h2,h3,h4⟩:=h
    by_cases hn:n=u.High / 4294967296
    · simp only [Bool.true_and]
      rw [show (n == u.High / 4294967296)=true from by simpa using hn,show (u.High == n * 4294967296+4096)=true from by simp; omega,show (u.Low == 9223372588214596859)=true from by simpa using h2]
      rfl
    · simp only [Bool.true_and]
      rw [beq_false_of_ne hn,beq_false_of_ne (by omega)]
      rfl
  · rw [if_neg h]
    simp only [Bool.false_and]
    symm
    rw [Bool.eq_false_iff]
    intro hc
    simp only [Bool.and_eq_true,beq_iff_eq] at hc
    exact h (by omega)
theorem index_ok (F:Nat) (l:List Int) (v:Int) (hF:l.length<F) (hl:l.length≤1000):q2y F l v=some (match l.findIdx? (fun x=>v == x) with | some k=>(k:Int) | none=>-1):=by
  unfold q2y
  have:=iter_find (body:=fun s=>q1d F l v s) (fun i=>(i:Int)) (l:=l) (p:=fun x=>v == x) (g:=fun k=>Sum.inr (k:Int)) (e:=Sum.inl ()) (by
    intro i x hx
    have hi:=(List.getElem?_eq_some_iff.1 hx).1
    show q1d F l v i=_
    unfold q1d
    rw [if_pos (by simp [len]; omega),dN,hx,Option.bind_some,wN i (by omega)]
    split <;> rfl) (by
    show q1d F l v _=_
    unfold q1d
    rw [if_neg (by simp [len])]) F 0 (by omega) (by omega)
  rw [show ((0:Nat):Int)=0 from rfl] at this
  rw [this,Option.bind_some,List.drop_zero]
  cases l.findIdx? (fun x=>v == x) with
  | none=>rfl
  | some k=>simp
theorem contains_ok (F:Nat) (l:List Int) (v:Int) (hF:l.length<F) (hl:l.length≤1000):q1e F l v=some (l.any fun x=>v == x):=by
  unfold q1e
  rw [index_ok F l v hF hl,Option.bind_some]
  congr 1
  cases h:l.findIdx? (fun x=>v == x) with
  | none=>
    rw [List.findIdx?_eq_none_iff] at h
    symm
    simp only [decide_eq_false (show ¬ ((-1:Int)≥0) by omega)]
    rw [List.any_eq_false]
    intro x hx
    rw [h x hx]
    decide
  | some k=>
    have:=List.findIdx?_eq_some_iff_getElem.1 h
    obtain⟨hk,hp,_⟩:=this
    symm
    rw [decide_eq_true (show (k:Int)≥0 by omega),List.any_eq_true]
    exact⟨_,List.getElem_mem hk,hp⟩
theorem is_ok (F:Nat) {u:Tx0} (hu:UOk u) (l:List Int) (hF:l.length<F) (hl:l.length≤1000) (hb:∀n∈l,0≤n∧n<65536):q9 F u l=some (l.any (isN u)):=by
  unfold q9
  rw [unumber F hu,Option.bind_some]
  have e:((numb u).2&&l.any fun x=>(numb u).1 == x)=l.any (isN u):=by
    induction l with
    | nil=>simp
    | cons n r ih=>
      have h1:=isN_num (u:=u) (hb n (by simp)).1 (hb n (by simp)).2
      rw [List.any_cons,List.any_cons,← h1,← ih (by simp at hF; omega) (by simp at hl; omega) fun m hm=>hb m (by simp [hm])]
      rw [Bool.and_or_distrib_left,show ((numb u).1 == n)=(n == (numb u).1) from by rw [Bool.eq_iff_iff,beq_iff_eq,beq_iff_eq]; exact eq_comm]
  by_cases h:(numb u).2=true
  · rw [if_pos h,contains_ok F l _ hF hl,Option.bind_some,Option.bind_some,← e,h,Bool.true_and]
  · rw [if_neg h,Option.bind_some,← e,(Bool.not_eq_true _).mp h,Bool.false_and]
def isv (u:Tx0):Bool:=isN u 10240||isN u 10241
def decl (u:Tx0):Bool:=isv u||(isN u 10242||isN u 10243)
def resv (u:Tx0):Bool:=decl u||isN u 10498
theorem is1 (F:Nat) {u:Tx0} (hu:UOk u) (n:Int) (hF:10<F) (h0:0≤n) (h1:n<65536):q9 F u [n]=some (isN u n):=by
  rw [is_ok F hu [n] (by simp; omega) (by simp) (by simp; omega)]
  simp
theorem service_ok (F:Nat) {u:Tx0} (hu:UOk u) (hF:10<F):qd F u=some (isv u):=by
  unfold qd isv
  rw [is_ok F hu [10240,10241] (by simp; omega) (by simp) (by intro n hn; simp at hn; omega)]
  simp
theorem declaration_ok (F:Nat) {u:Tx0} (hu:UOk u) (hF:10<F):qw F u=some (decl u):=by
  unfold qw decl
  rw [service_ok F hu hF,Option.bind_some,is_ok F hu [10242,10243] (by simp; omega) (by simp) (by intro n hn; simp at hn; omega)]
  cases isv u <;> simp
theorem reserved_ok (F:Nat) {u:Tx0} (hu:UOk u) (hF:10<F):q1i F u=some (resv u):=by
  unfold q1i resv
  rw [declaration_ok F hu hF,Option.bind_some,is1 F hu 10498 hF (by decide) (by decide)]
  cases decl u <;> simp
def UZ:Tx0:=Tx0.mk 0 0
def decU (b:List Int):Tx0×Int:=
  if b.length=2 then (sht (num b),0)
  else if b.length<16 then (UZ,3)
  else if b.length > 16 then (UZ,2)
  else if (numb (Tx0.mk (num (b.drop 8)) (num (b.take 8)))).2=true then (UZ,2)
  else (Tx0.mk (num (b.drop 8)) (num (b.take 8)),0)
theorem num2 (x y:Int):num [x,y]=x+256 * y:=by simp [num]
theorem uok16 {b:List Int} (hb:∀x∈b,Byte x) (hl:b.length=16):UOk (Tx0.mk (num (b.drop 8)) (num (b.take 8))):=by
  have h1:∀x∈b.drop 8,Byte x:=fun x hx=>hb x (List.mem_of_mem_drop hx)
  have h2:∀x∈b.take 8,Byte x:=fun x hx=>hb x (List.mem_of_mem_take hx)
  have h3:=num_lt h1
  have h4:=num_lt h2
  rw [show (b.drop 8).length=8 from by simp [hl]] at h3
  rw [show (b.take 8).length=8 from by simp [hl]] at h4
  exact⟨num_nonneg h1,h3,num_nonneg h2,h4⟩
theorem decU_ok {b:List Int} (hb:∀x∈b,Byte x):UOk (decU b).1:=by
  have hz:UOk UZ:=⟨by decide,by decide,by decide,by decide⟩
  unfold decU
  split
  · rename_i h
    match b,h,hb with
    | [x,y],_,hb=>
      have hx:=hb x (by simp)
      have hy:=hb y (by simp)
      obtain⟨x0,x1⟩:=hx
      obtain⟨y0,y1⟩:=hy
      rw [num2]
      exact sht_ok (by omega) (by omega)
  · split
    · exact hz
    · split
      · exact hz
      · split
        · exact hz
        · exact uok16 hb (by omega)
theorem ior_num {b:List Int} {i:Nat} (hb:∀x∈b,Byte x) (hi:i<8) (x:Int) (hx:b[i]? = some x):ior .u64 (num (b.take i)) (x * 256 ^ i)=num (b.take (i+1)):=by
  have hl:(b.take i).length=i:=by
    have:=(List.getElem?_eq_some_iff.1 hx).1
    simp; omega
  have ht:∀x∈b.take i,Byte x:=fun x hx=>hb x (List.mem_of_mem_take hx)
  have h1:=num_lt ht
  rw [hl] at h1
  rw [ior_add _ _ i hi (num_nonneg ht) h1 (hb x (List.mem_of_getElem? hx)),List.take_add_one,hx,num_append,hl]
  simp only [Option.toList_some,num]
  rw [Int.mul_zero,Int.add_zero,Int.mul_comm]
theorem udecode (F:Nat) {b:List Int} (hb:∀x∈b,Byte x) (hF:20<F):q1h F b=some (decU b):=by
  unfold q1h decU
  by_cases h2:b.length=2
  · rw [if_pos (show (len b == 2)=true from by simp [len]; omega),if_pos h2]
    match b,h2,hb with
    | [x,y],_,hb=>
      have hx:=hb x (by simp)
      have hy:=hb y (by simp)
      rw [show idx [x,y] 0=some x from rfl,show idx [x,y] 1=some y from rfl,Option.bind_some,Option.bind_some,word16 hx hy,num2]
      obtain⟨x0,x1⟩:=hx
      obtain⟨y0,y1⟩:=hy
      rw [ushort F _ (by omega) (by omega),Option.bind_some]
      rfl
  · rw [if_neg (show ¬ (len b == 2)=true from by simp [len]; omega),if_neg h2]
    by_cases h16:b.length<16
    · rw [if_pos (decide_eq_true (show len b<16 by rw [lN]; omega)),if_pos h16]; rfl
    · rw [if_neg (df (show ¬ len b<16 by rw [lN]; omega)),if_neg h16]
      by_cases h17:b.length > 16
      · rw [if_pos (decide_eq_true (show len b > 16 by rw [lN]; omega)),if_pos h17]; rfl
      · rw [if_neg (df (show ¬ len b > 16 by rw [lN]; omega)),if_neg h17]
        have hl:b.length=16:=by omega
        have h1:∀x∈b.drop 8,Byte x:=fun x hx=>hb x (List.mem_of_mem_drop hx)
        have:=iter_count (body:=fun s:Tx0×Int=>q1g F b s.1 s.2) (fun i=>(Tx0.mk (num ((b.drop 8).take i)) (num (b.take i)),(i:Int))) 8 (Tx0.mk (num (b.drop 8)) (num (b.take 8))) (by
          intro i hi
          have hx:b[i]? = some b[i]:=List.getElem?_eq_getElem (by omega)
          have hy:b[8+i]? = some b[8+i]:=List.getElem?_eq_getElem (by omega)
          have hy':(b.drop 8)[i]? = some b[8+i]:=by rw [List.getElem?_drop]; exact hy
          show q1g F b _ (i:Int)=_
          unfold q1g
          rw [if_pos (by simp; omega),dN,hx,Option.bind_some,shl_bytes (hb _ (List.mem_of_getElem? hx)) i hi,Option.bind_some]
          unfold q5o
          rw [w64_id (x:=8+(i:Int)) (by omega) (by omega),show (8:Int)+i=((8+i:Nat):Int) from by omega,dN,hy,Option.bind_some,shl_bytes (hb _ (List.mem_of_getElem? hy)) i hi,Option.bind_some,wN i (by omega)]
          simp only
          rw [ior_num hb hi _ hx,ior_num h1 hi _ hy']) (by
          show q1g F b _ ((8:Nat):Int)=_
          unfold q1g
          rw [if_neg (by simp),show (b.drop 8).take 8=b.drop 8 from List.take_of_length_le (by simp [hl])]) F 0 (by omega) (by omega)
        rw [List.take_zero,List.take_zero] at this
        have h0:((Tx0.mk (num []) (num []),((0:Nat):Int)):Tx0×Int)=(Tx0.mk 0 0,0):=rfl
        rw [h0] at this
        rw [this,Option.bind_some]
        unfold q5n
        rw [unumber F (uok16 hb hl),Option.bind_some]
        split <;> rfl
end V
end Go.Proofs.YtoahakdkgefgiaaGreat

namespace Go.Proofs.YtoahakdkgefgiaaGreat
namespace V
theorem dt {p:Prop} [Decidable p] (h:p):decide p=true:=decide_eq_true h
structure AOk (a:Tx1):Prop where
  h0:0≤a.Handle
  h1:a.Handle<65536
  u:UOk a.fT
  b:∀x∈a.Value,Byte x
  l:a.Value.length≤140737488355328
def prt (b:List Int):Int×Int×Tx0×Bool:=
  if b.length<3 then (0,0,UZ,false)
  else (num (b.take 1),num ((b.drop 1).take 2),(decU (b.drop 3)).1,(decU (b.drop 3)).2 == 0)
theorem sub_drop {α:Type} (l:List α) (k:Nat) (h:k≤l.length):sub l (k:Int) (len l)=some (l.drop k):=by
  rw [lN,sub_nat l k l.length h (by omega),List.take_length]
theorem udescribed (F:Nat) {b:List Int} (hb:∀x∈b,Byte x) (hF:20<F):q2z F b=some (if (prt b).2.2.2=true then prt b else (0,0,UZ,false)):=by
  unfold q2z prt
  by_cases h3:b.length<3
  · rw [if_pos (dt (show len b<3 by rw [lN]; omega)),if_pos h3]; rfl
  · rw [if_neg (df (show ¬ len b<3 by rw [lN]; omega)),if_neg h3]
    have hs:=sub_drop b 3 (by omega)
    rw [show ((3:Nat):Int)=3 from rfl] at hs
    rw [hs,Option.bind_some,udecode F (fun x hx=>hb x (List.mem_of_mem_drop hx)) hF,Option.bind_some]
    by_cases he:(decU (b.drop 3)).2=0
    · rw [if_neg (by simp [he]),if_pos (show ((decU (b.drop 3)).2 == 0)=true by simpa using he)]
      match b,h3,hb with
      | x::y::z::r,_,hb=>
        have hx:=hb x (by simp)
        have hy:=hb y (by simp)
        have hz:=hb z (by simp)
        obtain⟨x0,x1⟩:=hx
        rw [show idx (x::y::z::r) 0=some x from rfl,show idx (x::y::z::r) 1=some y from rfl,show idx (x::y::z::r) 2=some z from rfl,Option.bind_some,Option.bind_some,Option.bind_some,word16 hy hz,w64_id (by omega) (by omega)]
        unfold q5p
        simp only [List.drop_succ_cons,List.drop_zero] at he ⊢
        rw [he]
        simp [num]
    · rw [if_pos (by simp [he]),if_neg (show ¬ ((decU (b.drop 3)).2 == 0)=true by simpa using he)]; rfl
def cw (db:List Tx1) (i:Nat) (a:Tx1):Bool:=match db[i+1]? with
  | none=>true
  | some b=>(!(prt a.Value).2.2.2||resv (prt a.Value).2.2.1)||(b.Handle != (prt a.Value).2.1 || !(b.fT.High == (prt a.Value).2.2.1.High&&b.fT.Low == (prt a.Value).2.2.1.Low))
def wrg (db:List Tx1) (i:Nat) (p:Txb) (a:Tx1):Bool:=
  if (((i:Int) == 0 && !isv a.fT)||(decl a.fT&&(iand .i64 a.Perms 2 != 0)))=true then true
  else if isv a.fT=true then (decU a.Value).2 != 0
  else if isN a.fT 10243=true then cw db i a
  else if isN a.fT 10498=true then ((len a.Value != 2 || !p.char)||p.config)
  else false
theorem prt_ok {b:List Int} (hb:∀x∈b,Byte x):UOk (prt b).2.2.1:=by
  unfold prt
  split
  · exact⟨by decide,by decide,by decide,by decide⟩
  · exact decU_ok fun x hx=>hb x (List.mem_of_mem_drop hx)
theorem uwrong (F:Nat) {db:List Tx1} {i:Nat} {a:Tx1} (p:Txb) (hi:db[i]? = some a) (hn:db.length≤9000000000000000) (ha:AOk a) (hF:20<F):q30 F db i p=some (wrg db i p a):=by
  have hil:=(List.getElem?_eq_some_iff.1 hi).1
  unfold q30 wrg
  rw [dN,hi,Option.bind_some,service_ok F ha.u (by omega),declaration_ok F ha.u (by omega)]
  have hj:∀z:Bool,q3s F db i p a z=some (if z=true then true else if isv a.fT=true then (decU a.Value).2 != 0 else if isN a.fT 10243=true then cw db i a else if isN a.fT 10498=true then ((len a.Value != 2 || !p.char)||p.config) else false):=by
    intro z
    unfold q3s
    cases z with
    | true=>rfl
    | false=>
      rw [if_neg (by decide),if_neg (by decide),service_ok F ha.u (by omega),Option.bind_some]
      by_cases hs:isv a.fT=true
      · rw [if_pos hs,if_pos hs,udecode F ha.b hF,Option.bind_some]
      · rw [if_neg hs,if_neg hs,is1 F ha.u 10243 (by omega) (by decide) (by decide),Option.bind_some]
        by_cases hc:isN a.fT 10243=true
        · rw [if_pos hc,if_pos hc,udescribed F ha.b hF,Option.bind_some]
          unfold cw
          have hw:w64 ((i:Int)+1)=((i+1:Nat):Int):=wN i (by omega)
          by_cases ho:(prt a.Value).2.2.2=true
          · rw [if_pos ho,if_neg (by rw [ho]; decide),reserved_ok F (prt_ok ha.b) (by omega),Option.bind_some,hw,ho]
            by_cases hl:i+1<db.length
            · rw [List.getElem?_eq_getElem hl,dN,List.getElem?_eq_getElem hl]
              simp only [Option.bind_some]
              by_cases hr:resv (prt a.Value).2.2.1=true
              · rw [if_pos (by rw [hr]; rfl),hr]; rfl
              · rw [if_neg (by rw [(Bool.not_eq_true _).mp hr,Bool.false_or]; exact df (by rw [lN]; omega)),(Bool.not_eq_true _).mp hr]
                by_cases hh:(db[i+1].Handle != (prt a.Value).2.1)=true
                · rw [if_pos hh,hh]; rfl
                · rw [if_neg hh,(Bool.not_eq_true _).mp hh]; rfl
            · rw [List.getElem?_eq_none (by omega),if_pos (by
                rw [Bool.or_eq_true]
                exact .inr (dt (by rw [lN]; omega)))]
              rfl
          · rw [if_neg ho,if_pos (by rfl),if_pos (by rfl),(Bool.not_eq_true _).mp ho]
            cases db[i+1]? <;> rfl
        · rw [if_neg hc,if_neg hc,is1 F ha.u 10498 (by omega) (by decide) (by decide),Option.bind_some]
          by_cases hg:isN a.fT 10498=true
          · rw [if_pos hg,if_pos hg]
          · rw [if_neg hg,if_neg hg]
  by_cases h0:((i:Int) == 0)=true
  · rw [if_pos h0,Option.bind_some,Option.bind_some,h0,Bool.true_and]
    by_cases hs:isv a.fT=true
    · rw [hs]
      simp only [Bool.not_true,Bool.false_eq_true,if_false,Option.bind_some,Bool.false_or]
      rw [hj,hs]
      simp
    · rw [(Bool.not_eq_true _).mp hs]
      simp only [Bool.not_false,if_true,Bool.true_or]
      rw [hj]
      rfl
  · rw [if_neg h0,Option.bind_some,if_neg (by decide),Option.bind_some,(Bool.not_eq_true _).mp h0,Bool.false_and,Bool.false_or,hj]
def stepP (p:Txb) (u:Tx0):Txb:=
  if isv u=true then Txb.mk false false
  else if isN u 10243=true then Txb.mk true false
  else if isN u 10498=true then { p with config:=true }
  else p
def plc (l:List Tx1):Txb:=l.foldl (fun p a=>stepP p a.fT) (Txb.mk false false)
def cho (db:List Tx1):Nat→Int
  | 0=>-1
  | k+1=>match db[k]? with
    | none=>-1
    | some a=>if isN a.fT 10243=true then (k:Int) else if isv a.fT=true then -1 else cho db k
end V
end Go.Proofs.YtoahakdkgefgiaaGreat

namespace Go.Proofs.YtoahakdkgefgiaaGreat
namespace V
def fnd (db:List Tx1) (h:Int):Int:=match db.findIdx? (fun a=>a.Handle == h) with
  | some k=>(k:Int)
  | none=>-1
theorem ufind (F:Nat) (db:List Tx1) (h:Int) (hn:db.length≤9000000000000000) (hF:db.length<F):qe F db h=some (fnd db h):=by
  unfold qe q3u
  have:=iter_find (body:=fun s:Int×Int=>q1q F db s.1 s.2) (fun i=>(h,(i:Int))) (l:=db) (p:=fun a=>a.Handle == h) (g:=fun k=>Sum.inr ((k:Int),h)) (e:=Sum.inl h) (by
    intro i x hx
    have hi:=(List.getElem?_eq_some_iff.1 hx).1
    show q1q F db h (i:Int)=_
    unfold q1q q3t
    rw [if_pos (dt (by rw [lN]; omega)),dN,hx,Option.bind_some,Option.bind_some,wN i (by omega)]
    simp only
    split <;> rfl) (by
    show q1q F db h _=_
    unfold q1q
    rw [if_neg (df (by rw [lN]; omega))]) F 0 (by omega) (by omega)
  rw [show ((0:Nat):Int)=0 from rfl] at this
  rw [this,Option.bind_some,List.drop_zero]
  unfold fnd
  cases db.findIdx? (fun a=>a.Handle == h) with
  | none=>rfl
  | some k=>simp
structure Good (db:List Tx1):Prop where
  g:∀(i:Nat) a,db[i]? = some a→0≤a.Perms∧a.Perms≤15∧a.Value.length≤512∧wrg db i (plc (db.take i)) a=false
end V
end Go.Proofs.YtoahakdkgefgiaaGreat

namespace Go.Proofs.YtoahakdkgefgiaaGreat
namespace V
theorem sis (F:Nat) (u:Tx0) (n:Int) (h0:0≤n) (h1:n<65536):q8 F u n=some (isN u n):=by
  unfold q8
  rw [ushort F n h0 h1,Option.bind_some]
  rfl
def free (db:List Tx1) (i k:Nat):Prop:=∀(j:Nat) b,i<j→j<k→db[j]? = some b→isv b.fT=false∧isN b.fT 10243=false
def conf (db:List Tx1) (j:Nat):Prop:=∃b,db[j]? = some b∧isN b.fT 10498=true
def chr (db:List Tx1) (c:Nat) (a:Tx1):Prop:=db[c]? = some a∧isN a.fT 10243=true
def bt (p:Int):Int:=(if iand .i64 p 16 != 0 then 1 else 0)+(if iand .i64 p 32 != 0 then 2 else 0)
theorem ubits (F:Nat) (p:Int):q1k F p=some (bt p):=by
  unfold q1k bt q4l q4k
  by_cases h1:(iand .i64 p 16 != 0)=true
  · rw [if_pos h1,if_pos h1]
    by_cases h2:(iand .i64 p 32 != 0)=true
    · rw [if_pos h2,if_pos h2]; rfl
    · rw [if_neg h2,if_neg h2]; rfl
  · rw [if_neg h1,if_neg h1]
    by_cases h2:(iand .i64 p 32 != 0)=true
    · rw [if_pos h2,if_pos h2]; rfl
    · rw [if_neg h2,if_neg h2]; rfl
def hit (db:List Tx1) (h:Int) (j c:Nat) (a:Tx1):Prop:=conf db j∧cho db (j+1)=(c:Int)∧chr db c a∧(prt a.Value).2.1=h
theorem fnd_cases (db:List Tx1) (h:Int):fnd db h = -1∨∃k:Nat,fnd db h=(k:Int)∧k<db.length:=by
  unfold fnd
  cases he:db.findIdx? (fun a=>a.Handle == h) with
  | none=>exact .inl rfl
  | some k=>exact .inr ⟨k,rfl,(List.findIdx?_eq_some_iff_getElem.1 he).1⟩
end V
end Go.Proofs.YtoahakdkgefgiaaGreat

namespace Go.Proofs.YtoahakdkgefgiaaGreat
namespace V
structure SbOk (s:Tx2):Prop where
  h0:0≤s.Handle
  h1:s.Handle<65536
  b0 : -9223372036854775808≤s.Bits
  b1:s.Bits<9223372036854775808
theorem app_k {α:Type} {k:Nat} {l m:List α} (hk:k≤1000) (h:l.length+m.length≤100000000000):app k l m=some (l++m):=by
  unfold app
  have:(l.length+m.length) * k≤100000000000 * 1000:=Nat.mul_le_mul h hk
  rw [if_pos ⟨by omega,by omega⟩]
theorem uattrs (F:Nat) (db:List Tx1) (hv:∀a∈db,a.Value.length≤140737488355328) (hn:db.length≤10000000) (hF:db.length+5<F):q6 F db=some db:=by
  unfold q6
  have:=iter_count (body:=fun s:List Tx1×Int=>q1m F db s.1 s.2) (fun i=>(db.take i,(i:Int))) db.length db (by
    intro i hi
    have hx:db[i]? = some db[i]:=List.getElem?_eq_getElem hi
    have hm:=hv _ (List.getElem_mem hi)
    have hq:({ db[i] with Value:=db[i].Value }:Tx1)=db[i]:=by cases db[i]; rfl
    show q1m F db (db.take i) (i:Int)=_
    unfold q1m
    rw [if_pos (dt (by rw [lN]; omega)),dN,hx,Option.bind_some,join_one F _ (by omega) hm,Option.bind_some,app_k (by decide) (by simp; omega),Option.bind_some,wN i (by omega),List.take_add_one,hx]
    rfl) (by
    show q1m F db (db.take db.length) (db.length:Int)=_
    unfold q1m
    rw [if_neg (df (by rw [lN]; omega)),List.take_length]) F 0 (by omega) (by omega)
  rw [show (([],0):List Tx1×Int)=(db.take 0,((0:Nat):Int)) from rfl,this]
  rfl
def mkS (db:List Tx1) (mx lv:Int) (rb:Bool) (aw:Int) (subs:List Tx2):Txa:=Txa.mk db 23 mx lv [] aw rb subs [] false 0
theorem uclone (F:Nat) (l:List Tx2) (hn:l.length≤10000000):qc F l=some l:=by
  unfold qc
  rw [app_k (by decide) (by simp; omega),Option.bind_some,List.nil_append]
theorem example_ok:q1a FF=some true:=by kernel_rfl
theorem light_ok (F:Nat) (db:List Tx1) (hn:db.length≤9000000000000000) (hF:100<F):∃b,q1b F db=some b∧(b=true→db.length≤80∧∀a∈db,a.Value.length≤4096):=by
  unfold q1b
  obtain⟨o,h1,h2⟩:=iter_by (body:=fun s:Int×Int=>q25 F db s.1 s.2) (fun s=>∃i:Nat,s.2=(i:Int)∧i≤db.length∧i≤80∧∀a∈db.take i,a.Value.length≤4096)
    (fun o=>(∃n,o = .inl n∧∀a∈db.take 80,a.Value.length≤4096)∨o = .inr false) (fun s=>80 - s.2.toNat) (by
    rintro⟨n,x⟩ ⟨i,hx,hi,hi2,hall⟩
    simp only at hx
    subst hx
    show (∃s',q25 F db n (i:Int)=some (.next s')∧_)∨∃o,q25 F db n (i:Int)=some (.done o)∧_
    unfold q25
    by_cases hin:i<db.length∧i<80
    · have hxa:db[i]? = some db[i]:=List.getElem?_eq_getElem hin.1
      generalize hq:db[i]=a at hxa
      rw [if_pos (by rw [dt (show (i:Int)<len db by rw [lN]; omega),dt (show (i:Int)<80 by omega)]; rfl),dN,hxa]
      simp only [Option.bind_some]
      by_cases hv:len a.Value > 4096
      · rw [if_pos (dt hv)]
        exact .inr ⟨_,rfl,.inr rfl⟩
      · rw [if_neg (df hv)]
        rw [lN] at hv
        refine .inl ⟨_,rfl,⟨i+1,?_,by omega,by omega,?_⟩,?_⟩
        · simp only; exact wN i (by omega)
        · intro c hc
          rw [List.take_add_one,hxa] at hc
          rcases List.mem_append.1 hc with hc | hc
          · exact hall c hc
          · simp at hc; subst hc; omega
        · simp only; rw [wN i (by omega)]; omega
    · rw [if_neg (by
        rw [Bool.and_eq_true]
        rintro⟨h1,h2⟩
        have h1:=of_decide_eq_true h1
        have h2:=of_decide_eq_true h2
        rw [lN] at h1
        omega)]
      refine .inr ⟨_,rfl,.inl ⟨_,rfl,fun a ha=>hall a ?_⟩⟩
      have e:db.take 80=db.take i:=by
        by_cases h:i<db.length
        · rw [show i=80 from by omega]
        · rw [List.take_of_length_le (by omega),List.take_of_length_le (by omega)]
      rwa [e] at ha) F (0,0) ⟨0,rfl,by omega,by omega,by simp⟩ (by simp only; omega)
  rw [h1,Option.bind_some]
  rcases h2 with ⟨n,rfl,h3⟩ | rfl
  · refine ⟨_,rfl,fun hb=>?_⟩
    simp only [Bool.and_eq_true] at hb
    have h4:=of_decide_eq_true hb.1
    rw [lN] at h4
    refine ⟨by omega,fun a ha=>h3 a ?_⟩
    rwa [List.take_of_length_le (by omega)]
  · exact⟨false,rfl,fun h=>by cases h⟩
end V
end Go.Proofs.YtoahakdkgefgiaaGreat

namespace Go.Proofs.YtoahakdkgefgiaaGreat
namespace V
theorem rput_step (F:Nat) (size n i:Int) (l:List Int) (h0:0≤n) (h1:n<18446744073709551616) (hl:l.length≤1000000) (hi:0≤i∧i<1000) (hs:i<size):q1c F size n l i=some (.next (n / 256,l++[n % 256],i+1)):=by
  unfold q1c
  rw [if_pos (by simpa using hs)]
  simp only [remp,quop,tmod256 h0,tdiv256 h0,wrap_u64]
  rw [wu8_id (by omega) (by omega),app_cat (by simp; omega)]
  simp only [Option.bind_some]
  rw [wu64_id (by omega) (by omega),w64_id (by omega) (by omega)]
theorem rput_ok (F:Nat) (n:Int) (k:Nat) (hF:k<F) (hk:k≤8) (h0:0≤n) (h1:n<18446744073709551616):qb F n k=some (leb k n):=by
  have gen:∀(m F:Nat) (n i:Int) (l:List Int),0≤n→n<18446744073709551616→l.length≤1000 - m→m≤8→0≤i→i+m=k→m<F→iter (fun s=>q1c F (k:Int) s.1 s.2.1 s.2.2) F (n,l,i)=some (l++leb m n):=by
    intro m
    intro F
    have key:∀(m f:Nat) (n i:Int) (l:List Int),0≤n→n<18446744073709551616→l.length≤1000 - m→m≤8→0≤i→i+m=k→m<f→iter (fun s=>q1c F (k:Int) s.1 s.2.1 s.2.2) f (n,l,i)=some (l++leb m n):=by
      intro m
      induction m with
      | zero=>
        intro f n i l h0 h1 hl hm hi hik hf
        cases f with
        | zero=>omega
        | succ f=>
          rw [iter_stop (o:=l) (by unfold q1c; rw [if_neg (by simp; omega)])]
          simp [leb]
      | succ m ih=>
        intro f n i l h0 h1 hl hm hi hik hf
        cases f with
        | zero=>omega
        | succ f=>
          rw [iter_step (rput_step F k n i l h0 h1 (by omega) (by omega) (by omega)),ih f (n / 256) (i+1) (l++[n % 256]) (by omega) (by omega) (by simp; omega) (by omega) (by omega) (by omega) (by omega)]
          simp [leb]
    exact key m F
  unfold qb
  rw [gen k F n 0 [] h0 h1 (by simp) hk (by omega) (by omega) hF]
  simp [q57]
end V
end Go.Proofs.YtoahakdkgefgiaaGreat

namespace Go.Proofs.YtoahakdkgefgiaaGreat
namespace V
def encU (u:Tx0):List Int:=if (numb u).2=true then leb 2 (numb u).1 else leb 8 u.Low++leb 8 u.High
theorem numb_rng {u:Tx0} (hu:UOk u):0≤(numb u).1∧(numb u).1<65536:=by
  obtain⟨h0,h1,_,_⟩:=hu
  unfold numb
  by_cases h:u.Low=9223372588214596859∧u.High % 4294967296=4096∧u.High / 4294967296<65536
  · rw [if_pos h]
    simp only
    omega
  · rw [if_neg h]
    simp
theorem leb8 (n:Int):leb 8 n=[n % 256,n / 256 % 256,n / 65536 % 256,n / 16777216 % 256,n / 4294967296 % 256,n / 1099511627776 % 256,n / 281474976710656 % 256,n / 72057594037927936 % 256]:=by
  simp only [leb]
  rw [Int.ediv_ediv_of_nonneg (x:=n) (by decide:(0:Int)≤256),show (256:Int) * 256=65536 from rfl,Int.ediv_ediv_of_nonneg (x:=n) (by decide:(0:Int)≤65536),show (65536:Int) * 256=16777216 from rfl,Int.ediv_ediv_of_nonneg (x:=n) (by decide:(0:Int)≤16777216),show (16777216:Int) * 256=4294967296 from rfl,Int.ediv_ediv_of_nonneg (x:=n) (by decide:(0:Int)≤4294967296),show (4294967296:Int) * 256=1099511627776 from rfl,Int.ediv_ediv_of_nonneg (x:=n) (by decide:(0:Int)≤1099511627776),show (1099511627776:Int) * 256=281474976710656 from rfl,Int.ediv_ediv_of_nonneg (x:=n) (by decide:(0:Int)≤281474976710656),show (281474976710656:Int) * 256=72057594037927936 from rfl]
theorem uencode (F:Nat) {u:Tx0} (hu:UOk u) (hF:2<F):q3c F u=some (encU u):=by
  unfold q3c encU
  rw [unumber F hu,Option.bind_some]
  by_cases h:(numb u).2=true
  · rw [if_pos h,if_pos h,shrp_eq]
    simp only [leb,wu8]
    rfl
  · rw [if_neg h,if_neg h,ubytes,Option.bind_some,leb8,leb8]
    simp only [List.cons_append,List.nil_append]
    rw [join_one F _ (by omega) (by simp),Option.bind_some]
theorem rencode (F:Nat) {u:Tx0} (hu:UOk u) (hF:20<F):qt F u=some (encU u):=by
  unfold qt encU
  rw [rnumber F hu,Option.bind_some]
  have hr:=numb_rng hu
  obtain⟨h0,h1,l0,l1⟩:=hu
  by_cases h:(numb u).2=true
  · rw [if_pos h,if_pos h,wu64_id hr.1 (by omega)]
    have:=rput_ok F (numb u).1 2 (by omega) (by omega) hr.1 (by omega)
    rw [show ((2:Nat):Int)=2 from rfl] at this
    rw [this,Option.bind_some]
  · rw [if_neg h,if_neg h]
    have p1:=rput_ok F u.Low 8 (by omega) (by omega) l0 l1
    have p2:=rput_ok F u.High 8 (by omega) (by omega) h0 h1
    rw [show ((8:Nat):Int)=8 from rfl] at p1 p2
    rw [p1,p2,Option.bind_some,Option.bind_some,app_cat (by rw [lL,lL]; decide),Option.bind_some]
    rfl
theorem encU_len (u:Tx0):(encU u).length≤16:=by
  unfold encU
  by_cases h:(numb u).2=true
  · rw [if_pos h,lL]; decide
  · rw [if_neg h,List.length_append,lL,lL]; decide
end V
end Go.Proofs.YtoahakdkgefgiaaGreat

namespace Go.Proofs.YtoahakdkgefgiaaGreat
namespace V
theorem iter_fold2 {S O α β:Type} {body:S→Option (Out S O)} (l:List α) (f:β→α→β) (st:β→Nat→S) (o:β→O) (I:Nat→β→Prop)
    (h:∀(i:Nat) x b,l[i]? = some x→I i b→body (st b i)=some (.next (st (f b x) (i+1)))∧I (i+1) (f b x))
    (hd:∀b,I l.length b→body (st b l.length)=some (.done (o b))) :
    ∀(F i:Nat) (b:β),i≤l.length→I i b→l.length - i<F→iter body F (st b i)=some (o ((l.drop i).foldl f b))
  | 0,i,b,_,_,hF=>by omega
  | F+1,i,b,hi,hI,hF=>by
    by_cases hin:i<l.length
    · have hx:l[i]? = some l[i]:=List.getElem?_eq_getElem hin
      have hdr:l.drop i=l[i]::l.drop (i+1):=List.drop_eq_getElem_cons hin
      obtain⟨h1,h2⟩:=h i _ b hx hI
      rw [iter_step h1,iter_fold2 l f st o I h hd F (i+1) _ hin h2 (by omega),hdr,List.foldl_cons]
    · have:i=l.length:=by omega
      subst this
      rw [iter_stop (hd b hI),List.drop_length]
      rfl
theorem shr_bytes {v:Int} (i:Nat) (hi:i≤8) (_h0:0≤v):ishr .u64 v (w64 (8 * i))=some (v / 256 ^ i):=by
  rw [w64_id (by omega) (by omega)]
  unfold ishr
  rw [if_neg (by omega)]
  have h1:min (8 * (i:Int)).toNat IntKind.u64.bits=8 * i:=by
    show min (8 * (i:Int)).toNat 64=8 * i
    omega
  rw [h1,show (2:Int) ^ (8 * i)=256 ^ i from by rw [Int.pow_mul]; rfl,Int.fdiv_eq_ediv_of_nonneg _ (Int.le_of_lt (pow_pos256 i))]
structure FieldOk (f:Txd):Prop where
  s0:1≤f.Size
  s1:f.Size≤8
  v0:0≤f.Value
  v1:f.Value<18446744073709551616
  v2:f.Value<256 ^ f.Size.toNat
theorem oput_in (F:Nat) (x:Txd) (hx:FieldOk x) (l:List Int) (hl:l.length≤1000000) (hF:9<F):iter (fun s=>q14 F x s.1 s.2) F (l,0)=some (l++leb x.Size.toNat x.Value):=by
  obtain⟨s0,s1,v0,v1,v2⟩:=hx
  have:=iter_count (body:=fun s:List Int×Int=>q14 F x s.1 s.2) (fun i=>(l++leb i x.Value,(i:Int))) x.Size.toNat (l++leb x.Size.toNat x.Value) (by
    intro i hi
    show q14 F x (l++leb i x.Value) i=_
    unfold q14
    rw [if_pos (by simp; omega),shr_bytes i (by omega) v0]
    simp only [Option.bind_some]
    rw [app_cat (by simp [lL]; omega)]
    simp only [Option.bind_some]
    rw [wN i (by omega),leb_snoc,List.append_assoc]
    rfl) (by
    show q14 F x _ _=_
    unfold q14
    rw [if_neg (by simp; omega)]) F 0 (by omega) (by omega)
  simpa [leb] using this
def putAll (fs:List Txd):List Int:=(fs.map fun f=>leb f.Size.toNat f.Value).flatten
theorem putAll_len:∀{fs:List Txd},(∀f∈fs,FieldOk f)→(putAll fs).length≤8 * fs.length
  | [],_=>by simp [putAll]
  | f::fs,h=>by
    have h1:=h f (by simp)
    have h2:=putAll_len (fs:=fs) fun g hg=>h g (by simp [hg])
    obtain⟨s0,s1,_⟩:=h1
    simp only [putAll,List.map_cons,List.flatten_cons,List.length_append,lL,List.length_cons] at h2 ⊢
    omega
theorem oput_ok (F:Nat) (fs:List Txd) (h:∀f∈fs,FieldOk f) (hn:fs.length≤1000) (hF:fs.length+9<F):qz F fs=some (putAll fs,0):=by
  unfold qz
  have:=iter_count (body:=fun s:List Int×Int=>q1v F fs s.1 s.2) (fun i=>(putAll (fs.take i),(i:Int))) fs.length (.inl (putAll fs)) (by
    intro i hi
    have hx:fs[i]? = some fs[i]:=List.getElem?_eq_getElem hi
    have hf:=h fs[i] (List.getElem_mem hi)
    have hlen:=putAll_len (fs:=fs.take i) (fun f hf=>h f (List.mem_of_mem_take hf))
    have htl:(fs.take i).length≤i:=by simp; omega
    show q1v F fs (putAll (fs.take i)) i=_
    unfold q1v
    rw [if_pos (by simp [len]; omega),dN,hx]
    simp only [Option.bind_some,q3x]
    obtain⟨s0,s1,v0,v1,v2⟩:=hf
    have hsz:(!(decide (fs[i].Size≥1)&&decide (fs[i].Size≤8)))=false:=by simp; omega
    rw [hsz]
    simp only [Bool.false_eq_true,if_false]
    have hz:((if decide (fs[i].Size<8)=true then (ishr IntKind.u64 fs[i].Value (w64 (8 * fs[i].Size))).bind fun x_16=>some (x_16 != 0) else some false))=some false:=by
      by_cases h8:fs[i].Size<8
      · rw [if_pos (by simpa using h8)]
        have:=shr_bytes (v:=fs[i].Value) fs[i].Size.toNat (by omega) v0
        rw [show ((fs[i].Size.toNat:Nat):Int)=fs[i].Size from by omega] at this
        rw [this,Int.ediv_eq_zero_of_lt v0 v2]
        rfl
      · rw [if_neg (by simpa using h8)]
    rw [hz]
    simp only [Option.bind_some,Bool.false_eq_true,if_false]
    rw [oput_in F fs[i] ⟨s0,s1,v0,v1,v2⟩ _ (by omega) (by omega)]
    simp only [Option.bind_some,q5t]
    rw [wN i (by omega),List.take_add_one,hx]
    simp only [putAll,List.map_append,List.flatten_append,Option.toList_some,List.map_cons,List.map_nil,List.flatten_cons,List.flatten_nil,List.append_nil]) (by
    show q1v F fs _ _=_
    unfold q1v
    rw [if_neg (by simp [len]),List.take_length]) F 0 (by omega) (by omega)
  simp only [List.take_zero] at this
  have h0:(putAll [],((0:Nat):Int))=(([]:List Int),(0:Int)):=rfl
  rw [h0] at this
  rw [this]
  rfl
theorem number_ok (F:Nat) (k:Nat) (n:Int) (hk0:1≤k) (hk:k≤8) (h0:0≤n) (h1:n<18446744073709551616) (h2:n<256 ^ k) (hF:20<F):qo F (k:Int) n=some (leb k n):=by
  unfold qo
  rw [oput_ok F [Txd.mk k n] (by
    intro f hf
    simp at hf
    subst hf
    exact⟨by simp only; omega,by simp only; omega,h0,h1,by simpa using h2⟩) (by simp) (by simp; omega),Option.bind_some]
  simp [putAll]
theorem join_three (F:Nat) (a b c:List Int) (hF:3<F) (h:a.length+b.length+c.length≤140737488355328):q5 F [a,b,c]=some (a++b++c):=by
  unfold q5
  obtain⟨F',rfl⟩:∃F',F=F'+1+1+1+1:=⟨F - 4,by omega⟩
  have h1:qg (F'+1+1+1+1) [a,b,c] [] 0=some (.next (a,1)):=by simpa using join_step (F'+1+1+1+1) [a,b,c] [] 0 a rfl (by simp; omega) (by simp)
  have h2:qg (F'+1+1+1+1) [a,b,c] a 1=some (.next (a++b,2)):=by simpa using join_step (F'+1+1+1+1) [a,b,c] a 1 b rfl (by omega) (by simp)
  have h3:qg (F'+1+1+1+1) [a,b,c] (a++b) 2=some (.next (a++b++c,3)):=by simpa using join_step (F'+1+1+1+1) [a,b,c] (a++b) 2 c rfl (by rw [List.length_append]; omega) (by simp)
  rw [iter_step h1,iter_step h2,iter_step h3,iter_stop (o:=a++b++c) (by unfold qg; rw [if_neg (by simp [len])])]
  rfl
def I32 (x:Int):Prop:=0≤x∧x<4294967296
def I64 (x:Int):Prop:=0≤x∧x<18446744073709551616
theorem ixor32_rng (a b:Int):I32 (ixor .u32 a b):=by
  unfold ixor I32
  rw [wrap_u32]
  unfold wu32
  omega
theorem ixor64_rng (a b:Int):I64 (ixor .u64 a b):=by
  unfold ixor I64
  rw [wrap_u64]
  unfold wu64
  omega
def rot (x:Int) (n m:Nat):Int:=ior .u32 (IntKind.u32.wrap (x * 2 ^ n)) (x.fdiv (2 ^ m))
theorem ishl_lit (x:Int) (n:Nat) (hn:n≤32):ishl .u32 x (n:Int)=some (IntKind.u32.wrap (x * 2 ^ n)):=by
  unfold ishl
  rw [if_neg (by omega)]
  have:min (n:Int).toNat IntKind.u32.bits=n:=by
    show min (n:Int).toNat 32=n
    omega
  rw [this]
theorem ishr_lit (k:IntKind) (x:Int) (n:Nat) (hn:n≤k.bits):ishr k x (n:Int)=some (x.fdiv (2 ^ n)):=by
  unfold ishr
  rw [if_neg (by omega)]
  have:min (n:Int).toNat k.bits=n:=by omega
  rw [this]
theorem rot_u (F:Nat) (x:Int) (n:Nat) (h1:1≤n) (h2:n≤31) (e:iand .u64 (wu64 (n:Int)) 31=(n:Int)):q1w F x (n:Int)=some (rot x n (32 - n)):=by
  unfold q1w
  rw [e,show wu64 (32 - (n:Int))=((32 - n:Nat):Int) from by rw [wu64_id (by omega) (by omega)]; omega,ishl_lit x n (by omega),ishr_lit .u32 x (32 - n) (by show 32 - n≤32; omega),Option.bind_some,Option.bind_some]
  rfl
def rnd (h:Int):Int:=ixor .u32 (wu32 (rot (wu32 (h+0)) 7 25 * 2654435761)) (rot 0 16 16)
theorem round_u (F:Nat) (i:Int) (h0:0≤i) (h1:i<8) (h:Int):qh F 0 i h=some (rnd h):=by
  unfold qh
  have e1:qj F 0 (remp (w64 (11 * (remp i 64))) 64)=some 0:=by
    have e_0:qj F 0 (remp (w64 (11 * (remp 0 64))) 64)=some 0:=by kernel_rfl
    have e_1:qj F 0 (remp (w64 (11 * (remp 1 64))) 64)=some 0:=by kernel_rfl
    have e_2:qj F 0 (remp (w64 (11 * (remp 2 64))) 64)=some 0:=by kernel_rfl
    have e_3:qj F 0 (remp (w64 (11 * (remp 3 64))) 64)=some 0:=by kernel_rfl
    have e_4:qj F 0 (remp (w64 (11 * (remp 4 64))) 64)=some 0:=by kernel_rfl
    have e_5:qj F 0 (remp (w64 (11 * (remp 5 64))) 64)=some 0:=by kernel_rfl
    have e_6:qj F 0 (remp (w64 (11 * (remp 6 64))) 64)=some 0:=by kernel_rfl
    have e_7:qj F 0 (remp (w64 (11 * (remp 7 64))) 64)=some 0:=by kernel_rfl
    have:i=0∨i=1∨i=2∨i=3∨i=4∨i=5∨i=6∨i=7:=by omega
    rcases this with h | h | h | h | h | h | h | h
    · rw [h]; exact e_0
    · rw [h]; exact e_1
    · rw [h]; exact e_2
    · rw [h]; exact e_3
    · rw [h]; exact e_4
    · rw [h]; exact e_5
    · rw [h]; exact e_6
    · rw [h]; exact e_7
  have e2:q15 F 0 32=some 0:=by kernel_rfl
  have e3:wu32 0=0:=rfl
  rw [e1,Option.bind_some,e2,Option.bind_some,e3]
  have r1:=rot_u F (wu32 (h+0)) 7 (by decide) (by decide) (by kernel_rfl)
  have r2:=rot_u F 0 16 (by decide) (by decide) (by kernel_rfl)
  rw [show ((7:Nat):Int)=7 from rfl] at r1
  rw [show ((16:Nat):Int)=16 from rfl] at r2
  rw [r1,r2,Option.bind_some,Option.bind_some]
  rfl
def mx:Nat→Int×Int→Int×Int
  | 0,s=>s
  | n+1,s=>((mx n s).2,ixor .u32 (mx n s).1 (rnd (mx n s).2))
theorem mx_rng:∀(n:Nat) (s:Int×Int),I32 s.1→I32 s.2→I32 (mx n s).1∧I32 (mx n s).2
  | 0,_,h1,h2=>⟨h1,h2⟩
  | n+1,s,h1,h2=>⟨(mx_rng n s h1 h2).2,ixor32_rng _ _⟩
def mix0 (x:Int):Int:=(mx 8 (x / 4294967296,x % 4294967296)).1 * 4294967296+(mx 8 (x / 4294967296,x % 4294967296)).2
theorem mix0_rng {x:Int} (h:I64 x):I64 (mix0 x):=by
  obtain⟨h0,h1⟩:=h
  obtain⟨⟨a1,a2⟩,b1,b2⟩:=mx_rng 8 (x / 4294967296,x % 4294967296) ⟨by simp only; omega,by simp only; omega⟩ ⟨by simp only; omega,by simp only; omega⟩
  unfold mix0 I64
  omega
theorem iand_mod (x:Int) (h0:0≤x) (h1:x<18446744073709551616):iand .u64 x 4294967295=x % 4294967296:=by
  obtain⟨a,rfl⟩:=Int.eq_ofNat_of_zero_le h0
  unfold iand
  have e:(BitVec.ofInt IntKind.u64.bits (a:Int) &&& BitVec.ofInt IntKind.u64.bits 4294967295).toNat=a % 4294967296:=by
    rw [BitVec.toNat_and]
    show (BitVec.ofInt 64 (a:Int)).toNat &&& (BitVec.ofInt 64 ((4294967295:Nat):Int)).toNat=_
    rw [ofInt_nat 64 a (by omega),ofInt_nat 64 4294967295 (by decide),show (4294967295:Nat)=2 ^ 32 - 1 from by decide,Nat.and_two_pow_sub_one_eq_mod]
  rw [e,wrap_u64,wu64_id (by omega) (by omega)]
  omega
theorem split_ok (F:Nat) {x:Int} (h:I64 x):q36 F x=some (x / 4294967296,x % 4294967296):=by
  obtain⟨h0,h1⟩:=h
  have e1:∀x,q15 F x 32=some (iand .u64 x 4294967295):=by
    intro x
    unfold q15
    rw [if_neg (by decide),if_neg (by decide),show ishl .u64 1 32=some 4294967296 from by kernel_rfl,Option.bind_some]
    rfl
  unfold q36
  rw [e1,Option.bind_some,iand_mod x h0 h1,shrp_eq,show (2:Int) ^ 32=4294967296 from rfl,wu32_id (by omega) (by omega),wu32_id (by omega) (by omega)]
theorem mix_iter (F:Nat) (b:Int×Int×Int→Option (Out (Int×Int×Int) (Int×Int))) (s:Int×Int) (hF:8<F)
    (h:∀(x y:Int) (i:Nat),i<8→b (x,y,(i:Int))=some (.next (y,ixor .u32 x (rnd y),((i+1:Nat):Int)))) (hd:∀x y:Int,b (x,y,8)=some (.done (x,y))):iter b F (s.1,s.2,0)=some (mx 8 s):=by
  have:=iter_count (body:=b) (fun i=>((mx i s).1,(mx i s).2,(i:Int))) 8 (mx 8 s) (fun i hi=>h _ _ i hi) (hd _ _) F 0 (by omega) (by omega)
  exact this
theorem mix_u (F:Nat) {x:Int} (h:I64 x) (hF:8<F):q1y F 0 x=some (mix0 x):=by
  have hm:=mx_rng 8 (x / 4294967296,x % 4294967296) (by obtain⟨h0,h1⟩:=h; exact⟨by simp only; omega,by simp only; omega⟩) (by obtain⟨h0,h1⟩:=h; exact⟨by simp only; omega,by simp only; omega⟩)
  unfold q1y
  rw [split_ok F h,Option.bind_some]
  have:=mix_iter F (fun s=>q1x F 0 s.1 s.2.1 s.2.2) (x / 4294967296,x % 4294967296) hF (by
    intro x y i hi
    show q1x F 0 x y (i:Int)=_
    unfold q1x
    rw [if_pos (dt (by omega)),round_u F i (by omega) (by omega),Option.bind_some,wN i (by omega)]) (by
    intro x y
    show q1x F 0 x y 8=_
    unfold q1x
    rw [if_neg (by decide)])
  rw [this,Option.bind_some]
  unfold q5u q3y mix0
  generalize mx 8 (x / 4294967296,x % 4294967296)=t at hm
  obtain⟨⟨a0,a1⟩,b0,b1⟩:=hm
  obtain⟨a,b⟩:=t
  simp only at a0 a1 b0 b1 ⊢
  obtain⟨a,rfl⟩:=Int.eq_ofNat_of_zero_le a0
  obtain⟨b,rfl⟩:=Int.eq_ofNat_of_zero_le b0
  have e:shlp .u64 (wu64 (a:Int)) 32=((a * 2 ^ 32:Nat):Int):=by
    unfold shlp
    rw [wu64_id (by omega) (by omega),wrap_u64,show (a:Int) * 2 ^ 32=((a * 2 ^ 32:Nat):Int) from by rw [Int.natCast_mul]; rfl,wu64_id (by omega) (by omega)]
  rw [Option.bind_some,e,wu64_id (x:=(b:Int)) (by omega) (by omega),ior64 _ _ (by omega) (by omega),Nat.or_comm,nat_or_add _ _ 32 (by omega)]
  congr 1
  omega
theorem chunk_u (F:Nat) (l:List Int) (hb:∀x∈l,Byte x) (hl:l.length≤8) (hF:8<F):iter (fun s:Int×Int=>q16 F l s.1 s.2) F (0,0)=some (num l):=by
  have:=iter_count (body:=fun s:Int×Int=>q16 F l s.1 s.2) (fun i=>(num (l.take i),(i:Int))) l.length (num l) (by
    intro i hi
    have hx:l[i]? = some l[i]:=List.getElem?_eq_getElem hi
    show q16 F l (num (l.take i)) (i:Int)=_
    unfold q16
    rw [if_pos (dt (show (i:Int)<len l by rw [lN]; omega)),dN,hx,Option.bind_some,shl_bytes (hb _ (List.mem_of_getElem? hx)) i (by omega),Option.bind_some,wN i (by omega),ior_num hb (by omega) _ hx]) (by
    show q16 F l _ (l.length:Int)=_
    unfold q16
    rw [if_neg (df (by rw [lN]; omega)),List.take_length]) F 0 (by omega) (by omega)
  exact this
theorem tag_u (F:Nat) (b:List Int) (hb:∀x∈b,Byte x) (hl:b.length≤1000000000) (hF:1000000020<F):∃x,q17 F 0 b=some x∧I64 x:=by
  have h0:I64 (wu64 (len b)):=by rw [lN,wu64_id (by omega) (by omega)]; exact⟨by omega,by omega⟩
  obtain⟨o1,h1,h4⟩:=iter_by (body:=fun s:Int×Int=>q2g F 0 b s.1 s.2)
    (fun s=>I64 s.1∧∃i:Nat,s.2=(i:Int)∧i≤b.length+8) (fun a=>I64 a) (fun s=>b.length+8 - s.2.toNat) (by
    rintro⟨x,at_⟩ ⟨hx,i,hi,hil⟩
    simp only at hx hi
    subst hi
    show (∃t1,q2g F 0 b x (i:Int)=some (.next t1)∧_)∨∃o1,q2g F 0 b x (i:Int)=some (.done o1)∧_
    unfold q2g
    by_cases hin:i<b.length
    · have hmin:imin (w64 ((i:Int)+8)) (len b)=((min (i+8) b.length:Nat):Int):=by
        rw [w64_id (by omega) (by omega),lN]
        unfold imin
        by_cases h:(b.length:Int)<(i:Int)+8
        · rw [if_pos h]; omega
        · rw [if_neg h]; omega
      have hcb:∀y∈(b.take (min (i+8) b.length)).drop i,Byte y:=fun y hy=>hb y (List.mem_of_mem_take (List.mem_of_mem_drop hy))
      have hcl:((b.take (min (i+8) b.length)).drop i).length≤8:=by rw [List.length_drop,List.length_take]; omega
      rw [if_pos (dt (show (i:Int)<len b by rw [lN]; omega)),hmin,sub_nat b i _ (by omega) (by omega),Option.bind_some,chunk_u F _ hcb hcl (by omega),Option.bind_some]
      unfold q5w q7d
      have hr:=ixor64_rng x (num ((b.take (min (i+8) b.length)).drop i))
      rw [mix_u F hr (by omega),Option.bind_some,Option.bind_some]
      unfold q5v
      refine .inl ⟨_,rfl,⟨mix0_rng hr,i+8,?_,by omega⟩,?_⟩
      · simp only
        rw [w64_id (by omega) (by omega)]
        omega
      · simp only
        rw [w64_id (by omega) (by omega)]
        omega
    · rw [if_neg (df (show ¬ (i:Int)<len b by rw [lN]; omega))]
      exact .inr ⟨_,rfl,hx⟩) F (mix0 (wu64 (len b)),0) ⟨mix0_rng h0,0,rfl,by omega⟩ (by simp only; omega)
  refine ⟨o1,?_,h4⟩
  unfold q17 q7e
  rw [mix_u F h0 (by omega),Option.bind_some,h1]
  rfl
theorem derive_u (F:Nat) (x:Int) (hx:I64 x) (hF:1000000020<F):∃y,q37 F 0 [104,97,115,104] [x]=some y∧I64 y:=by
  obtain⟨y,h1,h2⟩:=tag_u F ([104,97,115,104,0]++leb 8 x) (by
    intro z hz
    rcases List.mem_append.1 hz with hz | hz
    · simp at hz
      unfold Byte
      omega
    · exact leb_byte _ _ z hz) (by rw [List.length_append,lL]; simp) hF
  refine ⟨y,?_,h2⟩
  · unfold q37 q3z
    obtain⟨F',rfl⟩:∃F',F=F'+1+1:=⟨F - 2,by omega⟩
    have s1:q18 (F'+1+1) [x] [] 0=some (.next ([Txd.mk 8 x],1)):=by
      unfold q18
      rw [if_pos (by simp [len]),show idx [x] 0=some x from rfl,Option.bind_some,app_small (by simp) (by omega),Option.bind_some]
      rfl
    have s2:q18 (F'+1+1) [x] [Txd.mk 8 x] 1=some (.done [Txd.mk 8 x]):=by
      unfold q18
      rw [if_neg (by simp [len])]
    rw [app_cat (by simp),Option.bind_some,iter_step (body:=fun s:List Txd×Int=>q18 (F'+1+1) [x] s.1 s.2) s1,iter_stop (body:=fun s:List Txd×Int=>q18 (F'+1+1) [x] s.1 s.2) s2,Option.bind_some]
    unfold q5x
    rw [oput_ok (F'+1+1) [Txd.mk 8 x] (by
      intro f hf
      simp at hf
      subst hf
      exact⟨by simp,by simp,hx.1,hx.2,hx.2⟩) (by simp) (by simp; omega),Option.bind_some,Option.bind_some]
    have hp:putAll [Txd.mk 8 x]=leb 8 x:=by simp [putAll]
    rw [hp,join_three _ _ _ _ (by omega) (by rw [lL]; simp),Option.bind_some]
    show (q17 (F'+1+1) 0 ([104,97,115,104,0]++leb 8 x)).bind _=_
    rw [h1]
    rfl
def hat (a:Tx1):List Int:=(leb 2 a.Handle++leb 8 a.fT.Low++leb 8 a.fT.High)++(if decl a.fT=true then leb 2 (a.Value.length:Int)++a.Value else [])
def hbs (db:List Tx1):List Int:=db.foldl (fun b a=>b++hat a) []
theorem hat_len {a:Tx1} (h:a.Value.length≤8192):(hat a).length≤8300:=by
  unfold hat
  rw [List.length_append,List.length_append,List.length_append,lL,lL,lL]
  by_cases hd:decl a.fT=true
  · rw [if_pos hd,List.length_append,lL]; omega
  · rw [if_neg hd,List.length_nil]; omega
theorem hat_byte {a:Tx1} (h:AOk a):∀x∈hat a,Byte x:=by
  intro x hx
  unfold hat at hx
  rcases List.mem_append.1 hx with hx | hx
  · rcases List.mem_append.1 hx with hx | hx
    · rcases List.mem_append.1 hx with hx | hx
      · exact leb_byte _ _ x hx
      · exact leb_byte _ _ x hx
    · exact leb_byte _ _ x hx
  · by_cases hd:decl a.fT=true
    · rw [if_pos hd] at hx
      rcases List.mem_append.1 hx with hx | hx
      · exact leb_byte _ _ x hx
      · exact h.b x hx
    · rw [if_neg hd] at hx
      cases hx
theorem hbs_inv:∀(db:List Tx1) (b:List Int),(∀a∈db,AOk a)→(∀a∈db,a.Value.length≤8192)→(∀x∈b,Byte x)→(∀x∈db.foldl (fun b a=>b++hat a) b,Byte x)∧(db.foldl (fun b a=>b++hat a) b).length≤b.length+8300 * db.length
  | [],b,_,_,hb=>⟨hb,by simp⟩
  | a::r,b,h1,h2,hb=>by
    have ih:=hbs_inv r (b++hat a) (fun c hc=>h1 c (by simp [hc])) (fun c hc=>h2 c (by simp [hc])) (by
      intro x hx
      rcases List.mem_append.1 hx with hx | hx
      · exact hb x hx
      · exact hat_byte (h1 a (by simp)) x hx)
    have hl:=hat_len (h2 a (by simp))
    rw [List.foldl_cons,List.length_cons]
    refine ⟨ih.1,Nat.le_trans ih.2 ?_⟩
    rw [List.length_append]
    omega
theorem u_hbs (F:Nat) (db:List Tx1) (hdb:∀a∈db,AOk a) (hv:∀a∈db,a.Value.length≤8192) (hn:db.length≤1000) (hF:2000<F):iter (fun s:List Int×Int=>q19 F db s.1 s.2) F ([],0)=some (hbs db):=by
  have:=iter_fold2 (body:=fun s:List Int×Int=>q19 F db s.1 s.2) db (fun b a=>b++hat a) (fun b i=>(b,(i:Int))) (fun b=>b) (fun i b=>b.length≤8300 * i) (by
    intro i a b hx hb
    have hi:=(List.getElem?_eq_some_iff.1 hx).1
    have ha:=hdb a (List.mem_of_getElem? hx)
    have hva:=hv a (List.mem_of_getElem? hx)
    have hl:=hat_len hva
    refine ⟨?_,by rw [List.length_append]; omega⟩
    show q19 F db b (i:Int)=_
    unfold q19
    have n1:=number_ok F 2 a.Handle (by decide) (by decide) ha.h0 (by have:=ha.h1; omega) (by have:=ha.h1; rw [show (256:Int) ^ 2=65536 from rfl]; omega) (by omega)
    have n2:=number_ok F 8 a.fT.Low (by decide) (by decide) ha.u.l0 ha.u.l1 (by rw [show (256:Int) ^ 8=18446744073709551616 from rfl]; exact ha.u.l1) (by omega)
    have n3:=number_ok F 8 a.fT.High (by decide) (by decide) ha.u.h0 ha.u.h1 (by rw [show (256:Int) ^ 8=18446744073709551616 from rfl]; exact ha.u.h1) (by omega)
    rw [show ((2:Nat):Int)=2 from rfl] at n1
    rw [show ((8:Nat):Int)=8 from rfl] at n2 n3
    rw [if_pos (dt (show (i:Int)<len db by rw [lN]; omega)),dN,hx,Option.bind_some,wu64_id (x:=a.Handle) ha.h0 (by have:=ha.h1; omega),n1,Option.bind_some,n2,Option.bind_some,n3,Option.bind_some,join_three F _ _ _ (by omega) (by rw [lL,lL,lL]; omega),Option.bind_some,app_cat (by rw [List.length_append,List.length_append,lL,lL,lL]; omega),Option.bind_some]
    unfold q5z hat
    rw [declaration_ok F ha.u (by omega),Option.bind_some]
    by_cases hd:decl a.fT=true
    · have n4:=number_ok F 2 (a.Value.length:Int) (by decide) (by decide) (by omega) (by omega) (by rw [show (256:Int) ^ 2=65536 from rfl]; omega) (by omega)
      rw [show ((2:Nat):Int)=2 from rfl] at n4
      rw [if_pos hd,if_pos hd,lN,wu64_id (x:=(a.Value.length:Int)) (by omega) (by omega),n4,Option.bind_some,join_two F _ _ (by omega) (by rw [lL]; omega),Option.bind_some,app_cat (by simp only [List.length_append,lL]; omega),Option.bind_some]
      unfold q40
      rw [wN i (by omega),List.append_assoc]
    · rw [if_neg hd,if_neg hd]
      unfold q40
      rw [wN i (by omega),List.append_nil]) (by
    intro b _
    show q19 F db b (db.length:Int)=_
    unfold q19
    rw [if_neg (df (by rw [lN]; omega))]) F 0 [] (by omega) (by simp) (by omega)
  rw [List.drop_zero] at this
  exact this
theorem hash_u (F:Nat) (db:List Tx1) (hdb:∀a∈db,AOk a) (hv:∀a∈db,a.Value.length≤8192) (hn:db.length≤1000) (hF:1000000020<F):∃y,qr F db=some y∧I64 y:=by
  have hi:=hbs_inv db [] hdb hv (by simp)
  obtain⟨x,h1,h3⟩:=tag_u F (hbs db) hi.1 (Nat.le_trans hi.2 (by simp; omega)) hF
  obtain⟨y,h4,h5⟩:=derive_u F x h3 hF
  refine ⟨imax 1 y,?_,?_⟩
  · unfold qr
    rw [u_hbs F db hdb hv hn (by omega),Option.bind_some]
    unfold q5y
    rw [h1,Option.bind_some,h4,Option.bind_some]
  · unfold I64 at h5 ⊢
    unfold imax
    split <;> omega
end V
end Go.Proofs.YtoahakdkgefgiaaGreat

namespace Go.Proofs.YtoahakdkgefgiaaGreat
namespace V
theorem upd_at {α:Type} {l:List α} {i:Nat} {x:α} (h:l[i]? = some x):upd l (i:Int) x=some l:=by
  obtain⟨h1,h2⟩:=List.getElem?_eq_some_iff.1 h
  unfold upd
  rw [if_pos ⟨by omega,by omega⟩,Int.toNat_natCast,← h2,List.set_getElem_self]
structure SvOk (s:Txa):Prop where
  d:s.DB.length≤10000000
  dv:∀a∈s.DB,a.Value.length≤140737488355328
  q:s.Queue.length≤10000000
  qv:∀a∈s.Queue,a.Value.length≤140737488355328
  o:s.Out.length≤10000000
  ov:∀a∈s.Out,a.Value.length≤140737488355328
  sb:s.Subs.length≤10000000
theorem uof (F:Nat) (s:Txa) (h:SvOk s) (hF:10000010<F):qm F s=some (Txc.mk s []):=by
  obtain⟨h1,h2,h3,h4,h5,h6,h7⟩:=h
  unfold qm
  rw [uattrs F s.DB h2 h1 (by omega),Option.bind_some,uclone F s.Subs h7,Option.bind_some]
  have e1:q13 F s.Queue=some s.Queue:=by
    unfold q13
    rw [app_k (by decide) (by simp; omega),Option.bind_some,List.nil_append]
  have e2:q2c F s.Out=some s.Out:=by
    unfold q2c
    rw [app_k (by decide) (by simp; omega),Option.bind_some,List.nil_append]
  rw [e1,e2,Option.bind_some,Option.bind_some]
  show q4n F s s=_
  unfold q4n
  have:=iter_count (body:=fun t:List Tx9×Int=>q1p F s t.1 t.2) (fun i=>(s.Queue,(i:Int))) s.Queue.length s.Queue (by
    intro i hi
    have hx:s.Queue[i]? = some s.Queue[i]:=List.getElem?_eq_getElem hi
    have hv:=h4 _ (List.getElem_mem hi)
    generalize s.Queue[i]=x at hx hv
    show q1p F s s.Queue (i:Int)=_
    unfold q1p
    rw [if_pos (dt (by rw [lN]; omega)),dN,hx]
    simp only [Option.bind_some]
    rw [join_one F _ (by omega) hv,Option.bind_some]
    have hu:upd s.Queue (i:Int) ({ x with Value:=x.Value }:Tx9)=some s.Queue:=upd_at hx
    rw [hu,Option.bind_some,wN i (by omega)]) (by
    show q1p F s s.Queue (s.Queue.length:Int)=_
    unfold q1p
    rw [if_neg (df (by rw [lN]; omega))]) F 0 (by omega) (by omega)
  rw [show ((0:Nat):Int)=0 from rfl] at this
  rw [this,Option.bind_some]
  unfold q5r
  have:=iter_count (body:=fun t:List Tx4×Int=>q1o F s t.1 t.2) (fun i=>(s.Out,(i:Int))) s.Out.length s.Out (by
    intro i hi
    have hx:s.Out[i]? = some s.Out[i]:=List.getElem?_eq_getElem hi
    have hv:=h6 _ (List.getElem_mem hi)
    generalize s.Out[i]=x at hx hv
    show q1o F s s.Out (i:Int)=_
    unfold q1o
    rw [if_pos (dt (by rw [lN]; omega)),dN,hx]
    simp only [Option.bind_some]
    rw [join_one F _ (by omega) hv,Option.bind_some]
    have hu:upd s.Out (i:Int) ({ x with Value:=x.Value }:Tx4)=some s.Out:=upd_at hx
    rw [hu,Option.bind_some,wN i (by omega)]) (by
    show q1o F s s.Out (s.Out.length:Int)=_
    unfold q1o
    rw [if_neg (df (by rw [lN]; omega))]) F 0 (by omega) (by omega)
  rw [show ((0:Nat):Int)=0 from rfl] at this
  rw [this,Option.bind_some]
  rfl
structure IOk (x:Tx3):Prop where
  h0:0≤x.Handle
  h1:x.Handle<65536
  l0:0≤x.Last
  l1:x.Last<65536
  u:UOk x.fT
  v:x.Value.length≤140737488351232
structure POk (p:Tx4):Prop where
  l:p.List.length≤140737488355328
  i:∀x∈p.List,IOk x
  h0:0≤p.Handle
  h1:p.Handle<65536
  u:UOk p.fT
  v:p.Value.length≤140737488355328
  b:∀x∈p.Value,Byte x
theorem fld7 (F:Nat) (z:Bool):∃u,q3k F z=some u:=by
  unfold q3k
  split <;> exact⟨_,rfl⟩
theorem fld6 (F:Nat) (k:Int) (z:Bool):∃u,q3l F k z=some u:=by
  unfold q3l
  repeat' split
  all_goals first | exact⟨_,rfl⟩ | exact fld7 F _
theorem fld5 (F:Nat) (k:Int) (z:Bool):∃u,q48 F k z=some u:=by
  unfold q48
  repeat' split
  all_goals first | exact⟨_,rfl⟩ | exact fld6 F _ _
theorem fld4 (F:Nat) (k:Int) (z:Bool):∃u,q2q F k z=some u:=by
  unfold q2q
  repeat' split
  all_goals first | exact⟨_,rfl⟩ | exact fld5 F _ _
theorem fld3 (F:Nat) (k:Int) (z:Bool):∃u,q49 F k z=some u:=by
  unfold q49
  repeat' split
  all_goals first | exact⟨_,rfl⟩ | exact fld4 F _ _
theorem fld2 (F:Nat) (k:Int) (z:Bool):∃u,q4a F k z=some u:=by
  unfold q4a
  repeat' split
  all_goals first | exact⟨_,rfl⟩ | exact fld3 F _ _
theorem fld1 (F:Nat) (k:Int) (z:Bool):∃u,q4b F k z=some u:=by
  unfold q4b
  repeat' split
  all_goals first | exact⟨_,rfl⟩ | exact fld2 F _ _
theorem fld0 (F:Nat) (k:Int):∃u,q22 F k=some u:=by
  unfold q22
  repeat' split
  all_goals first | exact⟨_,rfl⟩ | exact fld1 F _ _
theorem runused (F:Nat) (p:Tx4):∃b,q3m F p=some b:=by
  unfold q3m
  obtain⟨u,h⟩:=fld0 F p.Kind
  rw [h,Option.bind_some]
  have hz:∃z,(if ((((!u.Asked)&&(p.Asked != 0))||((!u.Handle)&&(p.Handle != 0)))||((!u.Last)&&(p.Last != 0)))=true then some (true)
    else if (!u.fT)=true then some ((!((p.fT.High == 0)&&(p.fT.Low == 0)))) else some (false))=some z:=by
    repeat' split
    all_goals exact⟨_,rfl⟩
  obtain⟨z,hz⟩:=hz
  rw [hz,Option.bind_some]
  repeat' split
  all_goals exact⟨_,rfl⟩
theorem ritem (F:Nat) (k:Int) {x:Tx3} (h:IOk x) (hF:30<F):∃b,qs F k x=some b:=by
  obtain⟨h0,h1,l0,l1,hu,hv⟩:=h
  have p1:=rput_ok F x.Handle 2 (by omega) (by omega) h0 (by omega)
  have p2:=rput_ok F x.Last 2 (by omega) (by omega) l0 (by omega)
  rw [show ((2:Nat):Int)=2 from rfl] at p1 p2
  have hl:=encU_len x.fT
  unfold qs q4y
  rw [wu64_id h0 (by omega),p1,Option.bind_some,wu64_id l0 (by omega),p2,rencode F hu (by omega)]
  split
  · rw [Option.bind_some,app_cat (by rw [lL]; omega)]
    exact⟨_,rfl⟩
  · split
    · rw [Option.bind_some,app_cat (by rw [lL,lL]; decide),Option.bind_some,app_cat (by rw [List.length_append,lL,lL]; omega)]
      exact⟨_,rfl⟩
    · rw [app_cat (by rw [lL]; omega)]
      exact⟨_,rfl⟩
theorem rcheckItem (F:Nat) (k:Int) {l:List Tx3} (h:∀x∈l,IOk x) (i:Nat) (hi:i<l.length) (hl:l.length≤140737488355328) (hF:30<F):∃e,q3n F k l i=some e:=by
  have hx:l[i]? = some l[i]:=List.getElem?_eq_getElem hi
  have hok:=h _ (List.getElem_mem hi)
  generalize l[i]=x at hx hok
  have h0:l[0]? = some l[0]:=List.getElem?_eq_getElem (by omega)
  have hok0:=h _ (List.getElem_mem (show 0<l.length by omega))
  generalize l[0]=y at h0 hok0
  have i0:idx l 0=some y:=h0
  obtain⟨b1,k1⟩:=ritem F k hok hF
  obtain⟨b2,k2⟩:=ritem F k hok0 hF
  have hj:∀z,∃e,q4c F k l x z=some e:=by
    intro z
    unfold q4c q6f
    split
    · exact⟨_,rfl⟩
    · rw [i0,Option.bind_some,k1,Option.bind_some,k2,Option.bind_some]
      split <;> exact⟨_,rfl⟩
  unfold q3n
  rw [dN,hx,Option.bind_some]
  have hz:∃z,(if (!(k == 5))=true then some ((!((x.fT.High == 0)&&(x.fT.Low == 0)))) else some (false))=some z:=by
    split <;> exact⟨_,rfl⟩
  obtain⟨z,hz⟩:=hz
  rw [hz,Option.bind_some]
  split
  · exact⟨_,rfl⟩
  · split
    · exact⟨_,rfl⟩
    · split
      · rename_i hc
        have hc:=of_decide_eq_true hc
        have hp:l[i - 1]? = some l[i - 1]:=List.getElem?_eq_getElem (by omega)
        rw [w64_id (by omega) (by omega),show (i:Int) - 1=((i - 1:Nat):Int) from by omega,dN,hp,Option.bind_some,Option.bind_some]
        exact hj _
      · exact hj _
theorem rcheckPDU (F:Nat) {p:Tx4} (h:POk p) (hF:p.List.length+30<F):∃e,q3p F p=some e:=by
  unfold q3p
  obtain⟨u,hu⟩:=fld0 F p.Kind
  obtain⟨b,hb⟩:=runused F p
  have hlst:∃e,q3o F p=some e:=by
    unfold q3o
    split
    · exact⟨_,rfl⟩
    · rename_i hne
      have hpos:0<p.List.length:=by
        by_cases e:p.List.length=0
        · exact absurd (by rw [lN,e]; rfl) hne
        · omega
      have hl:=h.l
      obtain⟨o,g1,g2⟩:=iter_by (body:=fun s:Int=>q2r F p s) (fun s=>∃i:Nat,s=(i:Int)∧i≤p.List.length) (fun _=>True) (fun s=>p.List.length - s.toNat) (by
        rintro s ⟨i,rfl,hi⟩
        show (∃s',q2r F p (i:Int)=some (.next s')∧_)∨∃o,q2r F p (i:Int)=some (.done o)∧_
        unfold q2r
        by_cases hin:i<p.List.length
        · rw [if_pos (dt (show (i:Int)<len p.List by rw [lN]; omega))]
          obtain⟨e,he⟩:=rcheckItem F p.Kind h.i i hin hl (by omega)
          rw [he,Option.bind_some]
          split
          · exact .inr ⟨_,rfl,trivial⟩
          · exact .inl ⟨_,rfl,⟨i+1,wN i (by omega),by omega⟩,by rw [wN i (by omega)]; omega⟩
        · rw [if_neg (df (show ¬ (i:Int)<len p.List by rw [lN]; omega))]
          exact .inr ⟨_,rfl,trivial⟩) F 0 ⟨0,rfl,by omega⟩ (by simp; omega)
      rw [g1,Option.bind_some]
      cases o with
      | inr e=>exact⟨_,rfl⟩
      | inl _=>
        have h0:p.List[0]? = some p.List[0]:=List.getElem?_eq_getElem hpos
        have hok0:=h.i _ (List.getElem_mem hpos)
        generalize p.List[0]=y at h0 hok0
        have i0:idx p.List 0=some y:=h0
        obtain⟨b2,k2⟩:=ritem F p.Kind hok0 (by omega)
        simp only
        unfold q6h q6g
        rw [i0,Option.bind_some,k2,Option.bind_some]
        split <;> exact⟨_,rfl⟩
  obtain⟨e,he⟩:=hlst
  rw [hu,Option.bind_some,hb,Option.bind_some,he,Option.bind_some]
  repeat' split
  all_goals exact⟨_,rfl⟩
end V
end Go.Proofs.YtoahakdkgefgiaaGreat

namespace Go.Proofs.YtoahakdkgefgiaaGreat
namespace V
structure Inv (s:Txa) (n:Nat):Prop where
  d:s.DB.length≤80
  a:∀a∈s.DB,AOk a∧a.Value.length≤4096
  sb:s.Subs.length≤n
  q:s.Queue.length≤16
  qv:∀x∈s.Queue,(∀y∈x.Value,Byte y)∧x.Value.length≤4096
  o:s.Out.length≤64
  ov:∀x∈s.Out,x.Value.length≤4096
theorem Inv.sv {s:Txa} {n:Nat} (h:Inv s n) (hn:n≤1000):SvOk s:=
  ⟨by have:=h.d; omega,fun a ha=>by have:=(h.a a ha).2; omega,by have:=h.q; omega,fun a ha=>by have:=(h.qv a ha).2; omega,by have:=h.o; omega,fun a ha=>by have:=h.ov a ha; omega,by have:=h.sb; omega⟩
theorem Inv.up {s:Txa} {n m:Nat} (h:Inv s n) (hn:n≤m):Inv s m:=⟨h.d,h.a,by have:=h.sb; omega,h.q,h.qv,h.o,h.ov⟩
theorem and_ff {a b:Bool} (h:a=false):¬ (a&&b)=true:=by rw [h]; simp
theorem ucheck (F:Nat) (db:List Tx1) (hdb:∀a∈db,AOk a) (hn:db.length≤9000000000000000) (hF:db.length+20<F):∃e,q1j F db=some e:=by
  unfold q1j
  by_cases hl:len db > 1000
  · rw [if_pos (dt hl)]
    exact⟨_,rfl⟩
  · rw [if_neg (df hl)]
    obtain⟨o1,h1,_⟩:=iter_by (body:=fun s:Int×Txb×Int=>q29 F db s.1 s.2.1 s.2.2)
      (fun s=>∃i:Nat,i≤db.length∧s.2.2=(i:Int)) (fun _=>True) (fun s=>db.length - s.2.2.toNat) (by
      rintro⟨last,pl,x⟩ ⟨i,hi,hx⟩
      simp only at hx
      subst hx
      show (∃t1,q29 F db last pl (i:Int)=some (.next t1)∧_)∨∃o1,q29 F db last pl (i:Int)=some (.done o1)∧_
      unfold q29
      by_cases hin:i<db.length
      · have hxa:db[i]? = some db[i]:=List.getElem?_eq_getElem hin
        have ha:=hdb _ (List.getElem_mem hin)
        generalize hq:db[i]=a at hxa ha
        rw [if_pos (dt (show (i:Int)<len db by rw [lN]; omega)),dN,hxa,Option.bind_some]
        by_cases h1:a.Handle≤last
        · rw [if_pos (dt h1)]
          exact .inr ⟨_,rfl,trivial⟩
        · rw [if_neg (df h1)]
          have hp:((if decide (a.Perms<0)=true then some true else some (decide (a.Perms > 15))):Option Bool)=some (decide (a.Perms<0)||decide (a.Perms > 15)):=by
            cases decide (a.Perms<0) <;> rfl
          first | rw [hp,Option.bind_some] | skip
          by_cases h2:(decide (a.Perms<0)||decide (a.Perms > 15))=true
          · rw [if_pos h2]
            exact .inr ⟨_,rfl,trivial⟩
          · rw [if_neg h2]
            by_cases h3:len a.Value > 512
            · rw [if_pos (dt h3)]
              exact .inr ⟨_,rfl,trivial⟩
            · rw [if_neg (df h3),uwrong F _ hxa hn ha (by omega),Option.bind_some]
              by_cases h4:wrg db i pl a=true
              · rw [if_pos h4]
                exact .inr ⟨_,rfl,trivial⟩
              · rw [if_neg h4,service_ok F ha.u (by omega),is1 F ha.u 10243 (by omega) (by decide) (by decide),is1 F ha.u 10498 (by omega) (by decide) (by decide)]
                simp only [Option.bind_some]
                have hw:=wN i (by omega)
                left
                unfold q31
                rw [hw]
                split
                · exact⟨_,rfl,⟨i+1,by omega,rfl⟩,by simp only; omega⟩
                · split
                  · exact⟨_,rfl,⟨i+1,by omega,rfl⟩,by simp only; omega⟩
                  · split
                    · exact⟨_,rfl,⟨i+1,by omega,rfl⟩,by simp only; omega⟩
                    · exact⟨_,rfl,⟨i+1,by omega,rfl⟩,by simp only; omega⟩
      · rw [if_neg (df (show ¬ (i:Int)<len db by rw [lN]; omega))]
        exact .inr ⟨_,rfl,trivial⟩) F (0,Txb.mk false false,0) ⟨0,by omega,rfl⟩ (by simp only; omega)
    rw [h1,Option.bind_some]
    cases o1 with
    | inl u=>exact⟨_,rfl⟩
    | inr e=>exact⟨_,rfl⟩
theorem own_some (F:Nat) (db:List Tx1) (i:Nat) (hi:i<db.length) (hn:db.length≤9000000000000000) (hF:db.length+5<F):∃r,qx F db i=some r:=by
  have key:∀(k f:Nat),k≤db.length→k<f→∃o,iter (fun s=>q12 F db s) f ((k:Int) - 1)=some o:=by
    intro k
    induction k with
    | zero=>
      intro f _ hf
      match f,hf with
      | f+1,_=>
      refine ⟨_,iter_stop (o:=.inl ()) ?_⟩
      show q12 F db _=_
      unfold q12
      rw [if_neg (df (by omega))]
      rfl
    | succ k ih=>
      intro f hk hf
      match f,hf with
      | f+1,hf=>
      have hx:db[k]? = some db[k]:=List.getElem?_eq_getElem (by omega)
      generalize hq:db[k]=a at hx
      rw [show ((k+1:Nat):Int) - 1=(k:Int) from by omega]
      have hb:(∃o,q12 F db (k:Int)=some (.done o))∨q12 F db (k:Int)=some (.next ((k:Int) - 1)):=by
        unfold q12
        rw [if_pos (dt (by omega)),dN,hx]
        simp only [Option.bind_some]
        rw [sis F _ _ (by decide) (by decide),sis F _ _ (by decide) (by decide),sis F _ _ (by decide) (by decide)]
        simp only [Option.bind_some]
        cases h1:isN a.fT 10240 with
        | true=>exact .inl ⟨_,rfl⟩
        | false=>
        cases h2:isN a.fT 10241 with
        | true=>exact .inl ⟨_,rfl⟩
        | false=>
        simp only [Bool.not_false,if_true,Option.bind_some]
        split
        · rename_i hc
          rw [Bool.and_eq_true] at hc
          have hl:=of_decide_eq_true hc.2
          rw [lN] at hl
          left
          match hv:a.Value,hl with
          | x::y::z::r,_=>exact⟨_,rfl⟩
          | [],h=>exact absurd h (by simp)
          | [_],h=>exact absurd h (by simp)
          | [_,_],h=>exact absurd h (by simp)
        · right
          rw [w64_id (by omega) (by omega)]
      rcases hb with ⟨o,hb⟩ | hb
      · exact⟨_,iter_stop hb⟩
      · rw [iter_step hb]
        exact ih f (by omega) (by omega)
  unfold qx
  obtain⟨o,h⟩:=key (i+1) F (by omega) (by omega)
  rw [show ((i+1:Nat):Int) - 1=(i:Int) from by omega] at h
  rw [h,Option.bind_some]
  cases o with
  | inl u=>exact⟨_,rfl⟩
  | inr e=>exact⟨_,rfl⟩
theorem subo_some (F:Nat) (db:List Tx1) (h:Int) (hn:db.length≤9000000000000000) (hF:db.length+5<F):∃r,q1l F db h=some r:=by
  unfold q1l
  obtain⟨o,h1,_⟩:=iter_by (body:=fun s:Int=>q2a F db h s) (fun s=>∃i:Nat,s=(i:Int)∧i≤db.length) (fun _=>True) (fun s=>db.length - s.toNat) (by
    rintro s ⟨i,rfl,hi⟩
    show (∃s',q2a F db h (i:Int)=some (.next s')∧_)∨∃o,q2a F db h (i:Int)=some (.done o)∧_
    unfold q2a
    by_cases hin:i<db.length
    · have hx:db[i]? = some db[i]:=List.getElem?_eq_getElem hin
      generalize hq:db[i]=a at hx
      rw [if_pos (dt (show (i:Int)<len db by rw [lN]; omega)),dN,hx,Option.bind_some,sis F _ _ (by decide) (by decide),Option.bind_some]
      have hnext:(∃s',q4m F (i:Int)=some (.next s')∧(∃i:Nat,s'=(i:Int)∧i≤db.length)∧db.length - s'.toNat<db.length - (i:Int).toNat):=
        ⟨_,rfl,⟨i+1,wN i (by omega),by omega⟩,by rw [wN i (by omega)]; omega⟩
      split
      · exact .inl hnext
      · obtain⟨r,hr⟩:=own_some F db i hin hn hF
        rw [hr,Option.bind_some]
        split
        · rw [ubits,Option.bind_some]
          exact .inr ⟨_,rfl,trivial⟩
        · exact .inl hnext
    · rw [if_neg (df (show ¬ (i:Int)<len db by rw [lN]; omega))]
      exact .inr ⟨_,rfl,trivial⟩) F 0 ⟨0,rfl,by omega⟩ (by simp; omega)
  rw [h1,Option.bind_some]
  cases o with
  | inl u=>exact⟨_,rfl⟩
  | inr e=>exact⟨_,rfl⟩
theorem acc_some (F:Nat) (x:Txc) (a:Tx1) (p c:Int):∃r,q1r F x a p c=some r:=by
  unfold q1r
  repeat' split
  all_goals exact⟨_,rfl⟩
theorem wri_some (F:Nat) (x:Txc) (h:Int) (hn:x.Sv.DB.length≤80) (hF:1000000020<F):∃i c,q1s F x h=some (i,c,x)∧(c=0→∃k:Nat,i=(k:Int)∧k<x.Sv.DB.length):=by
  unfold q1s
  rw [ufind F _ h (by omega) (by omega),Option.bind_some]
  rcases fnd_cases x.Sv.DB h with q | ⟨k,q,hk⟩
  · rw [q,if_pos (by decide)]
    exact⟨_,_,rfl,fun h=>absurd h (by decide)⟩
  · rw [q,if_neg (df (by omega)),dN,List.getElem?_eq_getElem hk,Option.bind_some]
    obtain⟨r,hr⟩:=acc_some F x x.Sv.DB[k] 2 3
    rw [hr,Option.bind_some]
    exact⟨_,_,rfl,fun _=>⟨k,rfl,hk⟩⟩
theorem sbn_some (F:Nat) (x:Txc) (h:Int) (hn:x.Sv.Subs.length≤1000) (hF:1000000020<F):∃i,qn F x h=some i∧(i = -1∨∃k:Nat,i=(k:Int)∧k<x.Sv.Subs.length):=by
  unfold qn q3w
  generalize x.Sv.Subs=l at hn
  obtain⟨o,h1,h2⟩:=iter_by (body:=fun s:Int×Int=>q2e F l s.1 s.2) (fun s=>∃i:Nat,s.2=(i:Int)∧i≤l.length) (fun o=>(∃u:Int,o = .inl u)∨∃(k:Nat) (u:Int),o = .inr ((k:Int),u)∧k<l.length) (fun s=>l.length - s.2.toNat) (by
    rintro⟨c,s⟩ ⟨i,hx,hi⟩
    simp only at hx
    subst hx
    show (∃s',q2e F l c (i:Int)=some (.next s')∧_)∨∃o,q2e F l c (i:Int)=some (.done o)∧_
    unfold q2e q3v
    by_cases hin:i<l.length
    · rw [if_pos (dt (show (i:Int)<len l by rw [lN]; omega)),dN,List.getElem?_eq_getElem hin,Option.bind_some,Option.bind_some]
      split
      · exact .inr ⟨_,rfl,.inr ⟨i,_,rfl,hin⟩⟩
      · exact .inl ⟨_,rfl,⟨i+1,wN i (by omega),by omega⟩,by simp only; rw [wN i (by omega)]; omega⟩
    · rw [if_neg (df (show ¬ (i:Int)<len l by rw [lN]; omega))]
      exact .inr ⟨_,rfl,.inl ⟨_,rfl⟩⟩) F (h,0) ⟨0,rfl,by omega⟩ (by simp only; omega)
  rw [h1]
  rcases h2 with ⟨u,rfl⟩ | ⟨k,u,rfl,hk⟩
  · exact⟨_,rfl,.inl rfl⟩
  · exact⟨_,rfl,.inr ⟨k,rfl,hk⟩⟩
theorem sbc_some (F:Nat) (x:Txc) (h n:Int) (hn:x.Sv.Subs.length≤1000) (hF:1000000020<F):∃l,q35 F x h n=some { x with Sv:={ x.Sv with Subs:=l } }∧l.length≤x.Sv.Subs.length+1:=by
  unfold q35
  obtain⟨i,h1,h2⟩:=sbn_some F x h hn hF
  rw [h1,Option.bind_some]
  unfold q34
  rcases h2 with rfl | ⟨k,rfl,hk⟩
  · rw [if_neg (and_ff (by decide)),if_neg (by decide)]
    split
    · obtain⟨o,g1,k,rfl,hk⟩:=iter_by (body:=fun s:Int=>q2f F x h s) (fun s=>∃i:Nat,s=(i:Int)∧i≤x.Sv.Subs.length) (fun o=>∃k:Nat,o=(k:Int)∧k≤x.Sv.Subs.length) (fun s=>x.Sv.Subs.length - s.toNat) (by
        rintro s ⟨i,rfl,hi⟩
        show (∃s',q2f F x h (i:Int)=some (.next s')∧_)∨∃o,q2f F x h (i:Int)=some (.done o)∧_
        unfold q2f
        by_cases hin:i<x.Sv.Subs.length
        · rw [if_pos (dt (show (i:Int)<len x.Sv.Subs by rw [lN]; omega)),dN,List.getElem?_eq_getElem hin,Option.bind_some,Option.bind_some]
          split
          · exact .inl ⟨_,rfl,⟨i+1,wN i (by omega),by omega⟩,by rw [wN i (by omega)]; omega⟩
          · exact .inr ⟨_,rfl,i,rfl,hi⟩
        · rw [if_neg (df (show ¬ (i:Int)<len x.Sv.Subs by rw [lN]; omega)),Option.bind_some,if_neg (by decide)]
          exact .inr ⟨_,rfl,i,rfl,hi⟩) F 0 ⟨0,rfl,by omega⟩ (by simp; omega)
      rw [g1,Option.bind_some]
      unfold q5s q33
      rw [if_pos ⟨by omega,by omega,rfl,by omega⟩,Option.bind_some]
      refine ⟨_,rfl,?_⟩
      simp only [Int.toNat_natCast,List.length_append,List.length_take,List.length_drop,List.length_cons,List.length_nil]
      omega
    · exact⟨_,rfl,by omega⟩
  · split
    · unfold q32
      rw [wN k (by omega),if_pos ⟨by omega,by omega,by omega⟩,Option.bind_some]
      refine ⟨_,rfl,?_⟩
      simp only [Int.toNat_natCast,List.length_append,List.length_take,List.length_drop]
      omega
    · rw [if_pos (dt (by omega)),dN,List.getElem?_eq_getElem hk,Option.bind_some]
      unfold upd
      rw [if_pos ⟨by omega,by omega⟩,Option.bind_some]
      exact⟨_,rfl,by simp⟩
def StW (x y:Txa) (n:Nat):Prop:=Inv y n∧y.Wait=x.Wait
theorem set_mem {α:Type} {l:List α} {i:Nat} {v x:α} (h:x∈l.set i v):x∈l∨x=v:=List.mem_or_eq_of_mem_set h
theorem val_ok {a:Tx1} (h:AOk a) {v:List Int} (hv:∀x∈v,Byte x) (hl:v.length≤4096):AOk { a with Value:=v }∧v.length≤4096:=⟨⟨h.h0,h.h1,h.u,hv,by show v.length≤_; omega⟩,hl⟩
theorem wrt_some (F:Nat) {x:Txc} {n:Nat} (h:Inv x.Sv n) (hn:n≤900) {p:Tx4} (hp:POk p) (hv:p.Value.length≤4096) (hF:1000000020<F):∃r,qy F x p=some r∧StW x.Sv r.2.Sv (n+1):=by
  have hd:=h.d
  have hsb:=h.sb
  obtain⟨i,c,h1,h2⟩:=wri_some F x p.Handle hd hF
  unfold qy
  rw [h1,Option.bind_some]
  by_cases hc:c=0
  · subst hc
    obtain⟨k,rfl,hk⟩:=h2 rfl
    have hx:x.Sv.DB[k]? = some x.Sv.DB[k]:=List.getElem?_eq_getElem hk
    have hak:=h.a _ (List.getElem_mem hk)
    generalize x.Sv.DB[k]=a at hx hak
    rw [if_neg (show ¬ ((0:Int) != 0)=true by decide)]
    simp only
    rw [dN,hx]
    simp only [Option.bind_some]
    rw [sis F _ _ (by decide) (by decide)]
    simp only [Option.bind_some]
    by_cases hq:(isN a.fT 10498&&len p.Value != 2)=true
    · rw [if_pos hq]
      exact⟨_,rfl,h.up (by omega),rfl⟩
    · rw [if_neg hq]
      cases hc:isN a.fT 10498 with
      | true=>
        rw [hc,Bool.true_and] at hq
        have hl:len p.Value=2:=by simpa using hq
        rw [lN] at hl
        rw [if_pos rfl]
        obtain⟨r,hr⟩:=own_some F x.Sv.DB k hk (by omega) (by omega)
        rw [hr,Option.bind_some]
        split
        · match hpv:p.Value,hl with
          | [b0,b1],_=>
            rw [show idx [b0,b1] 0=some b0 from rfl,show idx [b0,b1] 1=some b1 from rfl,Option.bind_some,Option.bind_some,ubits,Option.bind_some]
            obtain⟨l,g1,g2⟩:=sbc_some F x r.2.1 (iand .i64 (ior .i64 (w64 b0) (shlp .i64 (w64 b1) 8)) (bt r.1)) (by omega) hF
            rw [g1,Option.bind_some]
            exact⟨_,rfl,⟨hd,h.a,(show l.length≤n+1 by omega),h.q,h.qv,h.o,h.ov⟩,rfl⟩
          | [],h=>exact absurd h (by simp)
          | [_],h=>exact absurd h (by simp)
          | _::_::_::_,h=>exact absurd h (by simp; omega)
        · exact⟨_,rfl,⟨hd,h.a,(show x.Sv.Subs.length≤n+1 by omega),h.q,h.qv,h.o,h.ov⟩,rfl⟩
      | false=>
        rw [if_neg (by decide),join_one F _ (by omega) (by omega)]
        simp only [Option.bind_some]
        unfold upd
        rw [if_pos ⟨by omega,by omega⟩,Option.bind_some]
        refine ⟨_,rfl,⟨?_,?_,(show x.Sv.Subs.length≤n+1 by omega),h.q,h.qv,h.o,h.ov⟩,rfl⟩
        · show (x.Sv.DB.set _ _).length≤80
          rw [List.length_set]; exact hd
        · intro b hb
          rcases set_mem hb with hb | rfl
          · exact h.a b hb
          · exact val_ok hak.1 hp.b hv
  · rw [if_pos (bne_iff_ne.2 hc)]
    exact⟨_,rfl,h.up (by omega),rfl⟩
theorem shw_some (F:Nat) {x:Txc} {n:Nat} (h:Inv x.Sv n) (hn:n≤900) {k:Nat} (hk:k<x.Sv.DB.length) (hF:1000000020<F):∃b,q1z F x k=some b∧b.length≤4096:=by
  have hd:=h.d
  have hsb:=h.sb
  have hx:x.Sv.DB[k]? = some x.Sv.DB[k]:=List.getElem?_eq_getElem hk
  have hak:=h.a _ (List.getElem_mem hk)
  generalize x.Sv.DB[k]=a at hx hak
  unfold q1z
  rw [dN,hx,Option.bind_some,sis F _ _ (by decide) (by decide),Option.bind_some]
  split
  · obtain⟨y,h1,h2⟩:=hash_u F x.Sv.DB (fun a ha=>(h.a a ha).1) (fun a ha=>by have:=(h.a a ha).2; omega) (by omega) hF
    have hfo:∀f∈[Txd.mk 8 y],FieldOk f:=by
      intro f hf
      simp at hf
      subst hf
      exact⟨by simp,by simp,h2.1,h2.2,h2.2⟩
    rw [h1,Option.bind_some,oput_ok F [Txd.mk 8 y] hfo (by simp) (by simp; omega),Option.bind_some]
    refine ⟨_,rfl,?_⟩
    have:=putAll_len hfo
    simp only [List.length_cons,List.length_nil] at this
    simp only
    omega
  · rw [sis F _ _ (by decide) (by decide),Option.bind_some]
    split
    · obtain⟨r,hr⟩:=own_some F x.Sv.DB k hk (by omega) (by omega)
      obtain⟨i,g1,g2⟩:=sbn_some F x r.2.1 (by omega) hF
      rw [hr,Option.bind_some,g1]
      simp only [Option.bind_some]
      unfold q4p
      by_cases hz:r.2.2=true
      · rw [if_pos hz,Option.bind_some]
        rcases g2 with rfl | ⟨j,rfl,hj⟩
        · rw [if_neg (by decide)]
          exact⟨_,rfl,by simp⟩
        · rw [if_pos (dt (by omega)),dN,List.getElem?_eq_getElem hj,Option.bind_some]
          exact⟨_,rfl,by simp⟩
      · rw [if_neg hz,Option.bind_some,if_neg (by decide)]
        exact⟨_,rfl,by simp⟩
    · rw [join_one F _ (by omega) (by have:=hak.2; omega),Option.bind_some]
      exact⟨_,rfl,hak.2⟩
theorem cut_some (F:Nat) (b:List Int) (n:Int) (hb:b.length≤4096) (hF:1000000020<F):∃c,q10 F b n=some c∧c.length≤4096:=by
  unfold q10
  have hm:∃m:Nat,imax 0 (imin n (len b))=(m:Int)∧m≤b.length:=by
    refine ⟨(imax 0 (imin n (len b))).toNat,?_,?_⟩
    · rw [lN]; unfold imax imin; repeat' split
      all_goals omega
    · rw [lN]; unfold imax imin; repeat' split
      all_goals omega
  obtain⟨m,h1,h2⟩:=hm
  have hs:=sub_nat b 0 m (by omega) h2
  rw [show ((0:Nat):Int)=0 from rfl] at hs
  have hl:((b.take m).drop 0).length≤4096:=by rw [List.length_drop,List.length_take]; omega
  rw [h1,hs,Option.bind_some,join_one F _ (by omega) (by omega),Option.bind_some]
  exact⟨_,rfl,hl⟩
theorem rm4 (F:Nat) (m:Int) (z:Bool):∃r,q39 F m z=some r:=by
  unfold q39
  split <;> exact⟨_,rfl⟩
theorem rm3 (F:Nat) (k m:Int) (z:Bool):∃r,q41 F k m z=some r:=by
  unfold q41
  repeat' split
  all_goals first | exact⟨_,rfl⟩ | exact rm4 F _ _
theorem rm2 (F:Nat) (k m:Int) (z:Bool):∃r,q2h F k m z=some r:=by
  unfold q2h
  repeat' split
  all_goals first | exact⟨_,rfl⟩ | exact rm3 F _ _ _
theorem rm1 (F:Nat) (k m:Int) (z:Bool):∃r,q42 F k m z=some r:=by
  unfold q42
  repeat' split
  all_goals first | exact⟨_,rfl⟩ | exact rm2 F _ _ _
theorem rm_some (F:Nat) (k m:Int):∃r,qf F k m=some r:=by
  unfold qf
  split <;> exact rm1 F _ _ _
theorem ans_some (F:Nat) (k:Int):∃r,q38 F k=some r:=by
  unfold q38
  repeat' split
  all_goals exact⟨_,rfl⟩
theorem rd_some (F:Nat) {x:Txc} {n:Nat} (h:Inv x.Sv n) (hn:n≤900) (p:Tx4) (hF:1000000020<F):∃a,q3a F x p=some a:=by
  have hd:=h.d
  have h2:∀(k:Int) (b:List Int),b.length≤4096→∃a,q43 F x k b=some a:=by
    intro k b hb
    unfold q43 q60
    obtain⟨r,hr⟩:=rm_some F k x.Sv.MTU
    obtain⟨c,hc,_⟩:=cut_some F b r hb hF
    rw [hr,Option.bind_some,hc,Option.bind_some]
    exact⟨_,rfl⟩
  unfold q3a
  rw [ufind F _ _ (by omega) (by omega),Option.bind_some]
  unfold q61
  rcases fnd_cases x.Sv.DB p.Handle with q | ⟨k,q,hk⟩
  · rw [q,if_pos (by decide)]
    exact⟨_,rfl⟩
  · obtain⟨r,hr⟩:=acc_some F x x.Sv.DB[k] 1 2
    obtain⟨b,hb,hbl⟩:=shw_some F h hn hk hF
    obtain⟨w,hw⟩:=ans_some F p.Kind
    rw [q,if_neg (df (by omega)),dN,List.getElem?_eq_getElem hk,Option.bind_some]
    unfold q1u
    rw [hr,Option.bind_some,Option.bind_some]
    split
    · exact⟨_,rfl⟩
    · rw [hb,Option.bind_some,hw,Option.bind_some]
      split
      · split
        · exact⟨_,rfl⟩
        · rename_i hq
          simp only [Bool.or_eq_true,decide_eq_true_eq,not_or] at hq
          rw [lN] at hq
          have hs:=sub_nat b p.Offset.toNat b.length (by omega) (by omega)
          rw [show (p.Offset.toNat:Int)=p.Offset from by omega] at hs
          rw [lN,hs,Option.bind_some]
          exact h2 _ _ (by rw [List.length_drop,List.length_take]; omega)
      · exact h2 _ _ hbl
theorem add_some (F:Nat) (l:Txe) (i:Tx3) (sz:Int) (hl:l.items.length≤1000):∃r,qp F l i sz=some r∧r.2.items.length≤l.items.length+1:=by
  unfold qp q62
  split
  · exact⟨_,rfl,by simp⟩
  · rw [app_k (by decide) (by simp; omega),Option.bind_some]
    exact⟨_,rfl,by simp⟩
theorem rng_some (F:Nat) (db:List Tx1) (f l:Int) (hn:db.length≤80) (hv:∀a∈db,AOk a∧a.Value.length≤4096) (hF:1000000020<F):∃o,q3b F db f l=some o∧o.length≤80∧∀a∈o,AOk a:=by
  unfold q3b
  obtain⟨o,h1,h2,h3⟩:=iter_by (body:=fun s:List Tx1×Int=>q2i F db f l s.1 s.2) (fun s=>∃i:Nat,s.2=(i:Int)∧i≤db.length∧s.1.length≤i∧∀a∈s.1,AOk a) (fun o=>o.length≤80∧∀a∈o,AOk a) (fun s=>db.length - s.2.toNat) (by
    rintro⟨o,s⟩ ⟨i,hx,hi,hl,ho⟩
    simp only at hx hl ho
    subst hx
    show (∃s',q2i F db f l o (i:Int)=some (.next s')∧_)∨∃q,q2i F db f l o (i:Int)=some (.done q)∧_
    unfold q2i q4r q20
    by_cases hin:i<db.length
    · have hx:db[i]? = some db[i]:=List.getElem?_eq_getElem hin
      have ha:=hv _ (List.getElem_mem hin)
      generalize db[i]=a at hx ha
      rw [if_pos (dt (show (i:Int)<len db by rw [lN]; omega)),dN,hx,Option.bind_some]
      split
      · rw [join_one F _ (by omega) (by have:=ha.2; omega),Option.bind_some,Option.bind_some,app_k (by decide) (by simp; omega),Option.bind_some]
        refine .inl ⟨_,rfl,⟨i+1,wN i (by omega),by omega,by simp; omega,?_⟩,by simp only; rw [wN i (by omega)]; omega⟩
        intro b hb
        simp only at hb
        rcases List.mem_append.1 hb with hb | hb
        · exact ho b hb
        · simp at hb
          rw [hb]
          exact ha.1
      · exact .inl ⟨_,rfl,⟨i+1,wN i (by omega),by omega,by simp only; omega,ho⟩,by simp only; rw [wN i (by omega)]; omega⟩
    · rw [if_neg (df (show ¬ (i:Int)<len db by rw [lN]; omega))]
      exact .inr ⟨_,rfl,by omega,ho⟩) F ([],0) ⟨0,rfl,by omega,by simp,by simp⟩ (by simp only; omega)
  rw [h1,Option.bind_some]
  exact⟨_,rfl,h2,h3⟩
theorem fin_some (F:Nat) {x:Txc} {n:Nat} (h:Inv x.Sv n) (p:Tx4) (hF:1000000020<F):∃a,q3e F x p=some (a,x):=by
  have hd:=h.d
  unfold q3e
  obtain⟨r,hr⟩:=rm_some F 5 x.Sv.MTU
  obtain⟨l,h1,h2,h3⟩:=rng_some F x.Sv.DB p.Handle p.Last hd h.a hF
  rw [hr,Option.bind_some,h1,Option.bind_some]
  unfold q64
  obtain⟨o,g1,_⟩:=iter_by (body:=fun s:Txe×Int×Int=>q2j F l (len l) s.1 s.2.1 s.2.2) (fun s=>∃i:Nat,s.2.2=(i:Int)∧i≤l.length∧s.1.items.length≤i) (fun _=>True) (fun s=>l.length - s.2.2.toNat) (by
    rintro⟨c,z,s⟩ ⟨i,hx,hi,hl⟩
    simp only at hx hl
    subst hx
    show (∃s',q2j F l (len l) c z (i:Int)=some (.next s')∧_)∨∃q,q2j F l (len l) c z (i:Int)=some (.done q)∧_
    have h4:∀(c':Txe) (y:Int) (b:Bool),c'.items.length≤i+1→(∃s',q44 F (i:Int) y c' b=some (.next s')∧(∃i:Nat,s'.2.2=(i:Int)∧i≤l.length∧s'.1.items.length≤i)∧l.length - s'.2.2.toNat<l.length - (i:Int).toNat)∨(∃q,q44 F (i:Int) y c' b=some (.done q)∧True)∨¬ i<l.length:=by
      intro c' y b hc
      unfold q44
      by_cases hin:i<l.length
      · split
        · exact .inr (.inl ⟨_,rfl,trivial⟩)
        · exact .inl ⟨_,rfl,⟨i+1,wN i (by omega),by omega,hc⟩,by simp only; rw [wN i (by omega)]; omega⟩
      · exact .inr (.inr hin)
    have h5:∀(a:Tx1) (e:List Int) (y:Int),i<l.length→(∃s',q3d F c (i:Int) a e y=some (.next s')∧(∃i:Nat,s'.2.2=(i:Int)∧i≤l.length∧s'.1.items.length≤i)∧l.length - s'.2.2.toNat<l.length - (i:Int).toNat)∨(∃q,q3d F c (i:Int) a e y=some (.done q)∧True):=by
      intro a e y hin
      unfold q3d
      obtain⟨r,hr1,hr2⟩:=add_some F c (Tx3.mk a.Handle 0 a.fT []) (w64 (2+len e)) (by omega)
      rw [hr1]
      simp only [Option.bind_some]
      by_cases he:(len e != y)=true
      · rw [if_pos he,Option.bind_some]
        rcases h4 c y true (by omega) with q | q | q
        · exact .inl q
        · exact .inr q
        · exact absurd hin q
      · rw [if_neg he,Option.bind_some]
        rcases h4 r.2 y (!r.1) (by omega) with q | q | q
        · exact .inl q
        · exact .inr q
        · exact absurd hin q
    unfold q2j
    by_cases hin:i<l.length
    · have hx:l[i]? = some l[i]:=List.getElem?_eq_getElem hin
      have ha:=h3 _ (List.getElem_mem hin)
      generalize l[i]=a at hx ha
      rw [if_pos (dt (show (i:Int)<len l by rw [lN]; omega)),dN,hx,Option.bind_some,uencode F ha.u (by omega),Option.bind_some]
      split
      · exact h5 a _ _ hin
      · exact h5 a _ _ hin
    · rw [if_neg (df (show ¬ (i:Int)<len l by rw [lN]; omega))]
      exact .inr ⟨_,rfl,trivial⟩) F (Txe.mk [] r,0,0) ⟨0,rfl,by omega,by simp⟩ (by simp only; omega)
  rw [g1,Option.bind_some]
  unfold q63
  split
  · exact⟨_,rfl⟩
  · exact⟨_,rfl⟩
theorem byt_some (F:Nat) {x:Txc} {n:Nat} (h:Inv x.Sv n) (hn:n≤900) (p:Tx4) (hF:1000000020<F):∃a,q3f F x p=some (a,x):=by
  have hd:=h.d
  unfold q3f
  obtain⟨r,hr⟩:=rm_some F 9 x.Sv.MTU
  rw [hr,Option.bind_some]
  obtain⟨o,g1,g2⟩:=iter_by (body:=fun s:Txe×Int=>q2k F x p s.1 s.2) (fun s=>∃i:Nat,s.2=(i:Int)∧i≤x.Sv.DB.length∧s.1.items.length≤i) (fun o=>(∃u,o = .inl u)∨∃a,o = .inr (a,x)) (fun s=>x.Sv.DB.length - s.2.toNat) (by
    rintro⟨c,s⟩ ⟨i,hx,hi,hl⟩
    simp only at hx hl
    subst hx
    show (∃s',q2k F x p c (i:Int)=some (.next s')∧_)∨∃q,q2k F x p c (i:Int)=some (.done q)∧_
    unfold q2k
    by_cases hin:i<x.Sv.DB.length
    · have h2:∀c':Txe,c'.items.length≤i+1→(∃s',q4s F (i:Int) c'=some (.next s')∧(∃i:Nat,s'.2=(i:Int)∧i≤x.Sv.DB.length∧s'.1.items.length≤i)∧x.Sv.DB.length - s'.2.toNat<x.Sv.DB.length - (i:Int).toNat):=fun c' hc=>
        ⟨_,rfl,⟨i+1,wN i (by omega),by omega,hc⟩,by simp only; rw [wN i (by omega)]; omega⟩
      have h4:∀(c':Txe) (b:Bool),c'.items.length≤i+1→(∃s',q45 F (i:Int) c' b=some (.next s')∧(∃i:Nat,s'.2=(i:Int)∧i≤x.Sv.DB.length∧s'.1.items.length≤i)∧x.Sv.DB.length - s'.2.toNat<x.Sv.DB.length - (i:Int).toNat)∨(∃q,q45 F (i:Int) c' b=some (.done q)∧((∃u,q = .inl u)∨∃a,q = .inr (a,x))):=by
        intro c' b hc
        unfold q45
        split
        · exact .inr ⟨_,rfl,.inl ⟨_,rfl⟩⟩
        · exact .inl (h2 c' hc)
      have hx:x.Sv.DB[i]? = some x.Sv.DB[i]:=List.getElem?_eq_getElem hin
      generalize x.Sv.DB[i]=a at hx
      obtain⟨e,he⟩:=acc_some F x a 1 2
      obtain⟨b,hb,hbl⟩:=shw_some F h hn hin hF
      obtain⟨v,hv,_⟩:=cut_some F b (imin (w64 (x.Sv.MTU - 4)) 253) hbl hF
      rw [if_pos (dt (show (i:Int)<len x.Sv.DB by rw [lN]; omega)),dN,hx,Option.bind_some]
      unfold q1u
      rw [he,hb]
      simp only [Option.bind_some]
      rw [hv]
      simp only [Option.bind_some]
      split
      · exact .inl (h2 c (by omega))
      · split
        · exact .inr ⟨_,rfl,.inr ⟨_,rfl⟩⟩
        · unfold q66
          have hz:∃z,(if (e != 0)=true then some true else if decide (len c.items > 0)=true then (idx c.items 0).bind fun x_30=>some (len v != len x_30.Value) else some false)=some z:=by
            split
            · exact⟨_,rfl⟩
            · split
              · rename_i hc
                have hc:=of_decide_eq_true hc
                rw [lN] at hc
                rw [show idx c.items 0=c.items[0]? from dN c.items 0,List.getElem?_eq_getElem (by omega),Option.bind_some]
                exact⟨_,rfl⟩
              · exact⟨_,rfl⟩
          obtain⟨z,hz⟩:=hz
          rw [hz,Option.bind_some]
          obtain⟨r,hr1,hr2⟩:=add_some F c (Tx3.mk a.Handle 0 (Tx0.mk 0 0) v) (w64 (2+len v)) (by omega)
          rw [hr1]
          simp only [Option.bind_some]
          split
          · rw [Option.bind_some]
            exact h4 c true (by omega)
          · rw [Option.bind_some]
            exact h4 r.2 (!r.1) (by omega)
    · rw [if_neg (df (show ¬ (i:Int)<len x.Sv.DB by rw [lN]; omega))]
      exact .inr ⟨_,rfl,.inl ⟨_,rfl⟩⟩) F (Txe.mk [] r,0) ⟨0,rfl,by omega,by simp⟩ (by simp only; omega)
  rw [g1,Option.bind_some]
  rcases g2 with ⟨u,rfl⟩ | ⟨a,rfl⟩
  · simp only
    unfold q65
    split
    · exact⟨_,rfl⟩
    · exact⟨_,rfl⟩
  · exact⟨a,rfl⟩
theorem grp_some (F:Nat) (db:List Tx1) (hdb:∀a∈db,AOk a) (h:Int) (hn:db.length≤80) (hF:1000000020<F):∃r,q3g F db h=some r:=by
  unfold q3g
  rw [ufind F _ _ (by omega) (by omega),Option.bind_some]
  rcases fnd_cases db h with q | ⟨k,q,hk⟩
  · rw [q,if_pos (by decide),Option.bind_some,if_pos rfl]
    exact⟨_,rfl⟩
  · have hx:db[k]? = some db[k]:=List.getElem?_eq_getElem hk
    have ha:=hdb _ (List.getElem_mem hk)
    generalize db[k]=a at hx ha
    rw [q,if_neg (df (by omega)),dN,hx,Option.bind_some,service_ok F ha.u (by omega),Option.bind_some,Option.bind_some]
    split
    · exact⟨_,rfl⟩
    · obtain⟨o,g1,j,rfl,hj⟩:=iter_by (body:=fun s:Int=>q2l F db s) (fun s=>∃i:Nat,s=(i:Int)∧i<db.length) (fun o=>∃j:Nat,o=(j:Int)∧j<db.length) (fun s=>db.length - s.toNat) (by
        rintro s ⟨i,rfl,hi⟩
        show (∃s',q2l F db (i:Int)=some (.next s')∧_)∨∃q,q2l F db (i:Int)=some (.done q)∧_
        unfold q2l
        rw [wN i (by omega)]
        by_cases hin:i+1<db.length
        · have hx:db[i+1]? = some db[i+1]:=List.getElem?_eq_getElem hin
          have ha:=hdb _ (List.getElem_mem hin)
          generalize db[i+1]=b at hx ha
          rw [if_pos (dt (by rw [lN]; omega)),dN,hx,Option.bind_some,service_ok F ha.u (by omega),Option.bind_some,Option.bind_some]
          split
          · exact .inl ⟨_,rfl,⟨i+1,rfl,hin⟩,by omega⟩
          · exact .inr ⟨_,rfl,i,rfl,hi⟩
        · rw [if_neg (df (by rw [lN]; omega)),Option.bind_some,if_neg (by decide)]
          exact .inr ⟨_,rfl,i,rfl,hi⟩) F (k:Int) ⟨k,rfl,hk⟩ (by omega)
      rw [g1,Option.bind_some]
      unfold q67
      rw [dN,List.getElem?_eq_getElem hj,Option.bind_some]
      exact⟨_,rfl⟩
end V
end Go.Proofs.YtoahakdkgefgiaaGreat

namespace Go.Proofs.YtoahakdkgefgiaaGreat
namespace V
theorem gj3_some (F:Nat) (c:Txe) (i:Int) (a:Tx1) (e:Int) (hl:c.items.length≤1000) (hv:a.Value.length≤4096) (hF:1<F):∃c' b,q4u F c i a e=q21 F i c' b∧c'.items.length≤c.items.length+1:=by
  obtain⟨y,hy⟩:∃y,y=w64 (4+len a.Value):=⟨_,rfl⟩
  obtain⟨r,hr1,hr2⟩:=add_some F c (Tx3.mk a.Handle e (Tx0.mk 0 0) a.Value) y hl
  have hj:=join_one F a.Value hF (by omega)
  unfold q4u
  by_cases hc:decide (len c.items > 0)=true
  · rw [if_pos hc]
    have hc:=of_decide_eq_true hc
    rw [lN] at hc
    have h0:idx c.items 0=some (c.items[0]'(by omega)):=(dN c.items 0).trans (List.getElem?_eq_getElem (by omega))
    rw [h0,Option.bind_some]
    by_cases hn:(len a.Value != len (c.items[0]'(by omega)).Value)=true
    · rw [if_pos hn]
      exact⟨c,true,rfl,by omega⟩
    · rw [if_neg hn,hj,Option.bind_some,← hy,hr1,Option.bind_some]
      exact⟨_,_,rfl,hr2⟩
  · rw [if_neg hc,hj,Option.bind_some,← hy,hr1,Option.bind_some]
    exact⟨_,_,rfl,hr2⟩
theorem gro_some (F:Nat) {x:Txc} {n:Nat} (h:Inv x.Sv n) (p:Tx4) (hF:1000000020<F):∃a,q3h F x p=some (a,x):=by
  have hd:=h.d
  unfold q3h
  rw [sis F _ _ (by decide) (by decide),sis F _ _ (by decide) (by decide),Option.bind_some]
  have hz:∃z,(if (!isN p.fT 10240)=true then (some (isN p.fT 10241)).bind fun x_38=>some (!x_38) else some false)=some z:=by
    split
    · exact⟨_,rfl⟩
    · exact⟨_,rfl⟩
  obtain⟨z,hz⟩:=hz
  rw [hz,Option.bind_some]
  split
  · exact⟨_,rfl⟩
  · obtain⟨r,hr⟩:=rm_some F 17 x.Sv.MTU
    rw [hr,Option.bind_some]
    obtain⟨o,g1,_⟩:=iter_by (body:=fun s:Txe×Int=>q2m F x p s.1 s.2) (fun s=>∃i:Nat,s.2=(i:Int)∧i≤x.Sv.DB.length∧s.1.items.length≤i) (fun _=>True) (fun s=>x.Sv.DB.length - s.2.toNat) (by
      rintro⟨c,s⟩ ⟨i,hx,hi,hl⟩
      simp only at hx hl
      subst hx
      show (∃s',q2m F x p c (i:Int)=some (.next s')∧_)∨∃q,q2m F x p c (i:Int)=some (.done q)∧_
      unfold q2m
      by_cases hin:i<x.Sv.DB.length
      · have h2:∀c':Txe,c'.items.length≤i+1→(∃s',q4t F (i:Int) c'=some (.next s')∧(∃i:Nat,s'.2=(i:Int)∧i≤x.Sv.DB.length∧s'.1.items.length≤i)∧x.Sv.DB.length - s'.2.toNat<x.Sv.DB.length - (i:Int).toNat):=fun c' hc=>
          ⟨_,rfl,⟨i+1,wN i (by omega),by omega,hc⟩,by simp only; rw [wN i (by omega)]; omega⟩
        have h4:∀(c':Txe) (b:Bool),c'.items.length≤i+1→(∃s',q21 F (i:Int) c' b=some (.next s')∧(∃i:Nat,s'.2=(i:Int)∧i≤x.Sv.DB.length∧s'.1.items.length≤i)∧x.Sv.DB.length - s'.2.toNat<x.Sv.DB.length - (i:Int).toNat)∨(∃q,q21 F (i:Int) c' b=some (.done q)∧True):=by
          intro c' b hc
          unfold q21
          split
          · exact .inr ⟨_,rfl,trivial⟩
          · exact .inl (h2 c' hc)
        have hx:x.Sv.DB[i]? = some x.Sv.DB[i]:=List.getElem?_eq_getElem hin
        have ha:=h.a _ (List.getElem_mem hin)
        generalize x.Sv.DB[i]=a at hx ha
        obtain⟨e,he⟩:=grp_some F x.Sv.DB (fun a ha=>(h.a a ha).1) a.Handle hd hF
        rw [if_pos (dt (show (i:Int)<len x.Sv.DB by rw [lN]; omega)),dN,hx,Option.bind_some,he]
        simp only [Option.bind_some]
        split
        · exact .inl (h2 c (by omega))
        · obtain⟨c',b,q1,q2⟩:=gj3_some F c (i:Int) a e.1 (by omega) ha.2 (by omega)
          rw [q1]
          exact h4 c' b (by omega)
      · rw [if_neg (df (show ¬ (i:Int)<len x.Sv.DB by rw [lN]; omega))]
        exact .inr ⟨_,rfl,trivial⟩) F (Txe.mk [] r,0) ⟨0,rfl,by omega,by simp⟩ (by simp only; omega)
    rw [g1,Option.bind_some]
    unfold q68
    split
    · exact⟨_,rfl⟩
    · exact⟨_,rfl⟩
end V
end Go.Proofs.YtoahakdkgefgiaaGreat

namespace Go.Proofs.YtoahakdkgefgiaaGreat
namespace V
theorem pre_some (F:Nat) {x:Txc} {n:Nat} (h:Inv x.Sv n) {p:Tx4} (hp:POk p) (hv:p.Value.length≤4096) (hF:1000000020<F):∃r,q3i F x p=some r∧StW x.Sv r.2.Sv (n+1):=by
  have hd:=h.d
  have hsb:=h.sb
  have hql:=h.q
  obtain⟨i,c,h1,h2⟩:=wri_some F x p.Handle hd hF
  unfold q3i
  rw [h1,Option.bind_some]
  by_cases hc:c=0
  · subst hc
    obtain⟨k,rfl,hk⟩:=h2 rfl
    have hx:x.Sv.DB[k]? = some x.Sv.DB[k]:=List.getElem?_eq_getElem hk
    generalize x.Sv.DB[k]=a at hx
    rw [if_neg (show ¬ ((0:Int) != 0)=true by decide)]
    simp only
    rw [dN,hx]
    simp only [Option.bind_some]
    rw [sis F _ _ (by decide) (by decide)]
    simp only [Option.bind_some]
    split
    · exact⟨_,rfl,h.up (by omega),rfl⟩
    · by_cases hl:len x.Sv.Queue≥16
      · rw [if_pos (dt hl)]
        exact⟨_,rfl,h.up (by omega),rfl⟩
      · rw [if_neg (df hl)]
        rw [lN] at hl
        rw [join_one F _ (by omega) (by omega),Option.bind_some,app_k (by decide) (by simp; omega),Option.bind_some]
        unfold q6a q69
        rw [join_one F _ (by omega) (by omega),Option.bind_some]
        refine ⟨_,rfl,⟨hd,h.a,(show x.Sv.Subs.length≤n+1 by omega),?_,?_,h.o,h.ov⟩,rfl⟩
        · show (x.Sv.Queue++_).length≤16
          simp; omega
        · intro y hy
          have hy:y∈x.Sv.Queue++[Tx9.mk p.Handle p.Offset p.Value]:=hy
          rcases List.mem_append.1 hy with hy | hy
          · exact h.qv y hy
          · simp at hy
            subst hy
            exact⟨hp.b,hv⟩
  · rw [if_pos (bne_iff_ne.2 hc)]
    exact⟨_,rfl,h.up (by omega),rfl⟩
theorem exe_some (F:Nat) {x:Txc} {n:Nat} (h:Inv x.Sv n) (p:Tx4) (hF:1000000020<F):∃r,q3j F x p=some r∧StW x.Sv r.2.Sv (n+1):=by
  have hd:=h.d
  have hsb:=h.sb
  have hql:=h.q
  have hnil:Inv { x.Sv with Queue:=[] } (n+1):=⟨hd,h.a,(show x.Sv.Subs.length≤n+1 by omega),by simp,(fun y hy=>by cases hy),h.o,h.ov⟩
  unfold q3j
  split
  · exact⟨_,rfl,hnil,rfl⟩
  · rw [uattrs F x.Sv.DB (fun a ha=>by have:=(h.a a ha).2; omega) (by omega) (by omega),Option.bind_some]
    obtain⟨o,g1,g2⟩:=iter_by (body:=fun s:List Tx1×List Int×Int=>q2n F x p s.1 s.2.1 s.2.2) (fun s=>∃i:Nat,s.2.2=(i:Int)∧i≤x.Sv.Queue.length∧s.1.length≤80∧(∀a∈s.1,AOk a∧a.Value.length≤4096)∧s.2.1.length≤i)
      (fun o=>(∃u,o = .inl u∧u.1.length≤80∧∀a∈u.1,AOk a∧a.Value.length≤4096)∨∃a,o = .inr (a,{ x with Sv:={ x.Sv with Queue:=[] } })) (fun s=>x.Sv.Queue.length - s.2.2.toNat) (by
      rintro⟨db,w,s⟩ ⟨i,hx,hi,hdb,hall,hw⟩
      simp only at hx hdb hall hw
      subst hx
      show (∃s',q2n F x p db w (i:Int)=some (.next s')∧_)∨∃q,q2n F x p db w (i:Int)=some (.done q)∧_
      unfold q2n
      by_cases hin:i<x.Sv.Queue.length
      · have hx:x.Sv.Queue[i]? = some x.Sv.Queue[i]:=List.getElem?_eq_getElem hin
        have hqv:=h.qv _ (List.getElem_mem hin)
        generalize x.Sv.Queue[i]=q at hx hqv
        rw [if_pos (dt (show (i:Int)<len x.Sv.Queue by rw [lN]; omega)),dN,hx,Option.bind_some,ufind F _ _ (by omega) (by omega),Option.bind_some]
        rcases fnd_cases db q.Handle with e | ⟨k,e,hk⟩
        · rw [e,if_pos (by decide)]
          exact .inr ⟨_,rfl,.inr ⟨_,rfl⟩⟩
        · have hxa:db[k]? = some db[k]:=List.getElem?_eq_getElem hk
          have ha:=hall _ (List.getElem_mem hk)
          generalize db[k]=a at hxa ha
          rw [e,if_neg (df (by omega)),dN,hxa]
          simp only [Option.bind_some]
          by_cases ho:(decide (q.Offset<0)||decide (q.Offset > len a.Value))=true
          · rw [if_pos ho]
            exact .inr ⟨_,rfl,.inr ⟨_,rfl⟩⟩
          · rw [if_neg ho]
            simp only [Bool.or_eq_true,decide_eq_true_eq,not_or] at ho
            rw [lN] at ho
            by_cases hs:w64 (q.Offset+len q.Value) > 512
            · rw [if_pos (dt hs)]
              exact .inr ⟨_,rfl,.inr ⟨_,rfl⟩⟩
            · rw [if_neg (df hs)]
              have hal:=ha.2
              have hqv2:=hqv.2
              rw [lN,w64_id (by omega) (by omega)] at hs
              have hsb:=sub_nat a.Value 0 q.Offset.toNat (by omega) (by omega)
              rw [show (q.Offset.toNat:Int)=q.Offset from by omega,show ((0:Nat):Int)=0 from rfl] at hsb
              have hll:((a.Value.take q.Offset.toNat).drop 0).length+q.Value.length≤512:=by rw [List.length_drop,List.length_take]; omega
              rw [hsb,Option.bind_some,join_two F _ _ (by omega) (by omega),Option.bind_some]
              unfold upd
              rw [if_pos ⟨by omega,by omega⟩,Option.bind_some,contains_ok F w _ (by omega) (by omega),Option.bind_some]
              have hset:∀b∈db.set (k:Int).toNat { a with Value:=(a.Value.take q.Offset.toNat).drop 0++q.Value },AOk b∧b.Value.length≤4096:=by
                intro b hb
                rcases set_mem hb with hb | rfl
                · exact hall b hb
                · refine val_ok ha.1 ?_ (by rw [List.length_append]; omega)
                  intro y hy
                  rcases List.mem_append.1 hy with hy | hy
                  · exact ha.1.b y (List.mem_of_mem_take (List.mem_of_mem_drop hy))
                  · exact hqv.1 y hy
              unfold q4v
              split
              · rw [app_k (by decide) (by simp; omega),Option.bind_some]
                exact .inl ⟨_,rfl,⟨i+1,wN i (by omega),by omega,by simp only; rw [List.length_set]; exact hdb,hset,by simp; omega⟩,by simp only; rw [wN i (by omega)]; omega⟩
              · exact .inl ⟨_,rfl,⟨i+1,wN i (by omega),by omega,by simp only; rw [List.length_set]; exact hdb,hset,by simp only; omega⟩,by simp only; rw [wN i (by omega)]; omega⟩
      · rw [if_neg (df (show ¬ (i:Int)<len x.Sv.Queue by rw [lN]; omega))]
        exact .inr ⟨_,rfl,.inl ⟨_,rfl,hdb,hall⟩⟩) F (x.Sv.DB,[],0) ⟨0,rfl,by omega,hd,h.a,by simp⟩ (by simp only; omega)
    rw [g1,Option.bind_some]
    rcases g2 with ⟨u,rfl,u1,u2⟩ | ⟨a,rfl⟩
    · exact⟨_,rfl,⟨u1,u2,(show x.Sv.Subs.length≤n+1 by omega),by simp [q6b],(fun y hy=>by cases hy),h.o,h.ov⟩,rfl⟩
    · exact⟨_,rfl,hnil,rfl⟩
end V
end Go.Proofs.YtoahakdkgefgiaaGreat

namespace Go.Proofs.YtoahakdkgefgiaaGreat
namespace V
theorem j2_some (F:Nat) {s:Txa} {n:Nat} (h:Inv s n) (hn:n≤900) {p:Tx4} (hp:POk p) (hv:p.Value.length≤4096) (hF:1000000020<F) (aw:Int)
    (hc:(((p.Kind == 10)||(p.Kind == 12))||((p.Kind == 2)||((p.Kind == 4)||((p.Kind == 8)||((p.Kind == 16)||((p.Kind == 18)||((p.Kind == 22)||(p.Kind == 24))))))))=true) :
    ∃r,q46 F p (Txc.mk s []) aw=some r∧StW s r.1 (n+1):=by
  obtain⟨x,hx⟩:∃x:Txc,x=Txc.mk { s with Aware:=aw } []:=⟨_,rfl⟩
  have hi:Inv x.Sv n:=by rw [hx]; exact⟨h.d,h.a,h.sb,h.q,h.qv,h.o,h.ov⟩
  have hw:x.Sv.Wait=s.Wait:=by rw [hx]
  have hu:Inv { s with Aware:=aw } (n+1):=⟨h.d,h.a,by have:=h.sb; show s.Subs.length≤n+1; omega,h.q,h.qv,h.o,h.ov⟩
  have hxu:Inv x.Sv (n+1):=hi.up (by omega)
  unfold q46
  rw [show ({ Txc.mk s [] with Sv:={ (Txc.mk s []).Sv with Aware:=aw } }:Txc)=x from hx.symm]
  by_cases c1:((p.Kind == 10)||(p.Kind == 12))=true
  · rw [if_pos c1]
    obtain⟨a,ha⟩:=rd_some F hi hn p hF
    rw [ha,Option.bind_some]
    exact⟨_,rfl,hu,rfl⟩
  rw [if_neg c1]
  by_cases c2:(p.Kind == 2)=true
  · rw [if_pos c2]
    exact⟨_,rfl,⟨hxu.d,hxu.a,hxu.sb,hxu.q,hxu.qv,hxu.o,hxu.ov⟩,hw⟩
  rw [if_neg c2]
  by_cases c3:(p.Kind == 4)=true
  · rw [if_pos c3]
    obtain⟨a,ha⟩:=fin_some F hi p hF
    rw [ha,Option.bind_some]
    exact⟨_,rfl,hxu,hw⟩
  rw [if_neg c3]
  by_cases c4:(p.Kind == 8)=true
  · rw [if_pos c4]
    obtain⟨a,ha⟩:=byt_some F hi hn p hF
    rw [ha,Option.bind_some]
    exact⟨_,rfl,hxu,hw⟩
  rw [if_neg c4]
  by_cases c5:(p.Kind == 16)=true
  · rw [if_pos c5]
    obtain⟨a,ha⟩:=gro_some F hi p hF
    rw [ha,Option.bind_some]
    exact⟨_,rfl,hxu,hw⟩
  rw [if_neg c5]
  by_cases c6:(p.Kind == 18)=true
  · rw [if_pos c6]
    obtain⟨r,hr,h1,h2⟩:=wrt_some F hi hn hp hv hF
    rw [hr,Option.bind_some]
    exact⟨_,rfl,h1,h2.trans hw⟩
  rw [if_neg c6]
  by_cases c7:(p.Kind == 22)=true
  · rw [if_pos c7]
    obtain⟨r,hr,h1,h2⟩:=pre_some F hi hp hv hF
    rw [hr,Option.bind_some]
    exact⟨_,rfl,h1,h2.trans hw⟩
  rw [if_neg c7]
  by_cases c8:(p.Kind == 24)=true
  · rw [if_pos c8]
    obtain⟨r,hr,h1,h2⟩:=exe_some F hi p hF
    rw [hr,Option.bind_some]
    exact⟨_,rfl,h1,h2.trans hw⟩
  · exfalso
    rw [(Bool.not_eq_true _).mp c1,(Bool.not_eq_true _).mp c2,(Bool.not_eq_true _).mp c3,(Bool.not_eq_true _).mp c4,(Bool.not_eq_true _).mp c5,(Bool.not_eq_true _).mp c6,(Bool.not_eq_true _).mp c7,(Bool.not_eq_true _).mp c8] at hc
    exact Bool.false_ne_true hc
theorem hdl_some (F:Nat) {s:Txa} {n:Nat} (h:Inv s n) (hn:n≤900) {p:Tx4} (hp:POk p) (hv:p.Value.length≤4096) (hF:1000000020<F) :
    ∃r,qi F s p 0=some r∧Inv r.1 (n+1)∧(p.Kind≠30→r.1.Wait=s.Wait):=by
  have hup:=h.up (show n≤n+1 by omega)
  have hwt:Inv { s with Wait:=false } (n+1):=⟨hup.d,hup.a,hup.sb,hup.q,hup.qv,hup.o,hup.ov⟩
  obtain⟨w,hw,hw1,hw2⟩:=wrt_some F (x:=Txc.mk s []) h hn hp hv hF
  unfold qi
  rw [uof F s (h.sv (by omega)) (by omega),Option.bind_some]
  unfold q2d
  simp only [Option.bind_some]
  have h30:(p.Kind == 30)=true→∀q:Bool,p.Kind≠30→q=s.Wait:=fun h q hq=>absurd (by simpa using h) hq
  by_cases hc:(((p.Kind == 10)||(p.Kind == 12))||((p.Kind == 2)||((p.Kind == 4)||((p.Kind == 8)||((p.Kind == 16)||((p.Kind == 18)||((p.Kind == 22)||(p.Kind == 24))))))))=true
  · rw [if_pos hc]
    have hj:=fun aw=>j2_some F h hn hp hv hF aw hc
    have hj11:∀y:Int×Bool,∃r,q47 F p (Txc.mk s []) y.1 y.2=some r∧Inv r.1 (n+1)∧(p.Kind≠30→r.1.Wait=s.Wait):=by
      intro y
      unfold q47
      split
      · exact⟨_,rfl,⟨hup.d,hup.a,hup.sb,hup.q,hup.qv,hup.o,hup.ov⟩,fun _=>rfl⟩
      · obtain⟨r,r1,r2⟩:=hj y.1
        exact⟨r,r1,r2.1,fun _=>r2.2⟩
    by_cases c1:(p.Kind == 30)=true
    · rw [if_pos c1]
      exact⟨_,rfl,hwt,h30 c1 _⟩
    rw [if_neg c1]
    split
    · rw [hw,Option.bind_some]
      exact⟨_,rfl,hw1,fun _=>hw2⟩
    · split
      · have hca:∀z:Bool,∃y,q1t F s.Aware z=some y:=by
          intro z
          unfold q1t
          split <;> exact⟨_,rfl⟩
        split
        · rw [sis F _ _ (by decide) (by decide),Option.bind_some]
          obtain⟨y,hy⟩:=hca (isN p.fT 11050)
          rw [hy,Option.bind_some]
          exact hj11 y
        · obtain⟨y,hy⟩:=hca false
          rw [hy,Option.bind_some]
          exact hj11 y
      · obtain⟨r,r1,r2⟩:=hj s.Aware
        exact⟨r,r1,r2.1,fun _=>r2.2⟩
  · rw [if_neg hc]
    by_cases c1:(p.Kind == 30)=true
    · rw [if_pos c1]
      exact⟨_,rfl,hwt,h30 c1 _⟩
    rw [if_neg c1]
    split
    · rw [hw,Option.bind_some]
      exact⟨_,rfl,hw1,fun _=>hw2⟩
    · exact⟨_,rfl,hup,fun _=>rfl⟩
theorem set_some (F:Nat) (db:List Tx1) (h:Int) (v:List Int) (hn:db.length≤80) (ha:∀a∈db,AOk a∧a.Value.length≤4096) (hv:v.length≤4096) (hb:∀x∈v,Byte x) (hF:1000000020<F) :
    ∃r,q2s F db h v=some r∧r.1.length≤80∧∀a∈r.1,AOk a∧a.Value.length≤4096:=by
  unfold q2s
  have:=iter_count (body:=fun s:List Tx1×Int=>q23 F db s.1 s.2) (fun i=>(db.take i,(i:Int))) db.length db (by
    intro i hi
    have hx:db[i]? = some db[i]:=List.getElem?_eq_getElem hi
    have hm:=(ha _ (List.getElem_mem hi)).2
    show q23 F db (db.take i) (i:Int)=_
    unfold q23 q20
    rw [if_pos (dt (by rw [lN]; omega)),dN,hx,Option.bind_some,join_one F _ (by omega) (by omega),Option.bind_some,Option.bind_some,app_k (by decide) (by simp; omega),Option.bind_some,wN i (by omega),List.take_add_one,hx]
    rfl) (by
    show q23 F db (db.take db.length) (db.length:Int)=_
    unfold q23
    rw [if_neg (df (by rw [lN]; omega)),List.take_length]) F 0 (by omega) (by omega)
  rw [show (([],0):List Tx1×Int)=(db.take 0,((0:Nat):Int)) from rfl,this,Option.bind_some]
  unfold q6i
  rw [ufind F _ _ (by omega) (by omega),Option.bind_some]
  rcases fnd_cases db h with q | ⟨k,q,hk⟩
  · rw [q,if_pos (by decide)]
    exact⟨_,rfl,hn,ha⟩
  · have hx:db[k]? = some db[k]:=List.getElem?_eq_getElem hk
    have hak:=ha _ (List.getElem_mem hk)
    generalize db[k]=a at hx hak
    rw [q,if_neg (df (by omega)),dN,hx]
    simp only [Option.bind_some]
    rw [reserved_ok F hak.1.u (by omega),Option.bind_some]
    split
    · exact⟨_,rfl,hn,ha⟩
    · split
      · exact⟨_,rfl,hn,ha⟩
      · rw [join_one F _ (by omega) (by omega),Option.bind_some]
        unfold upd
        rw [if_pos ⟨by omega,by omega⟩,Option.bind_some]
        refine ⟨_,rfl,by simp only; rw [List.length_set]; exact hn,?_⟩
        intro b hb2
        rcases set_mem hb2 with hb2 | rfl
        · exact ha b hb2
        · exact val_ok hak.1 hb hv
theorem ntf_some (F:Nat) {s:Txa} {n:Nat} (h:Inv s n) (hn:n≤900) (hd:Int) (v:List Int) (hv:v.length≤4096) (hb:∀x∈v,Byte x) (hF:1000000020<F) :
    ∃r,q3q F s hd v=some r∧StW s r.1 n:=by
  have hsb:=h.sb
  have ho:=h.o
  unfold q3q
  rw [uof F s (h.sv (by omega)) (by omega),Option.bind_some]
  obtain⟨r,h1,h2,h3⟩:=set_some F s.DB hd v h.d h.a hv hb hF
  show ∃y,(q2s F s.DB hd v).bind _=some y∧_
  rw [h1,Option.bind_some]
  split
  · exact⟨_,rfl,h,rfl⟩
  · obtain⟨i,g1,g2⟩:=sbn_some F (Txc.mk s []) hd (show s.Subs.length≤1000 by omega) hF
    rw [g1,Option.bind_some]
    have hnew:∀(out:List Tx4),out.length≤64→(∀x∈out,x.Value.length≤4096)→Inv { s with DB:=r.1,Out:=out } n:=fun out o1 o2=>⟨h2,h3,hsb,h.q,h.qv,o1,o2⟩
    split
    · exact⟨_,rfl,h,rfl⟩
    · rename_i hq
      split
      · exact⟨_,rfl,hnew s.Out ho h.ov,rfl⟩
      · rename_i hi
        rcases g2 with rfl | ⟨k,rfl,hk⟩
        · exact absurd (by decide) hi
        · have hlt:¬ (len s.Out≥64):=by
            intro hc
            apply hq
            rw [Bool.and_eq_true]
            exact⟨dt (by omega),dt hc⟩
          rw [lN] at hlt
          have hj:∀kd,∃y,q4d F hd v (Txc.mk s []) r kd=some y∧StW s y.1 n:=by
            intro kd
            unfold q4d q6j
            rw [join_one F _ (by omega) (by omega),Option.bind_some]
            show ∃y,(app 120 s.Out _).bind _=some y∧_
            rw [app_k (by decide) (by simp; omega),Option.bind_some]
            refine ⟨_,rfl,hnew _ (by simp; omega) ?_,rfl⟩
            intro x hx
            rcases List.mem_append.1 hx with hx | hx
            · exact h.ov x hx
            · simp at hx
              subst hx
              exact hv
          have hk':k<s.Subs.length:=hk
          show ∃y,(idx s.Subs (k:Int)).bind _=some y∧_
          rw [dN,List.getElem?_eq_getElem hk',Option.bind_some]
          split
          · exact hj 27
          · exact hj 29
theorem out_some (F:Nat) {s:Txa} {n:Nat} (h:Inv s n) (hn:n≤900) (hF:1000000020<F) :
    ∃r,q3r F s 0=some r∧Inv r.1 n∧((r.2.2&&(r.2.1.Kind == 29))=true→s.Wait=false∧r.1.Wait=true)∧((r.2.2&&(r.2.1.Kind == 29))=false→r.1.Wait=s.Wait):=by
  have ho:=h.o
  unfold q3r
  rw [uof F s (h.sv (by omega)) (by omega),Option.bind_some]
  simp only
  cases hout:s.Out with
  | nil=>
    rw [if_pos (by rfl),Option.bind_some,if_pos rfl]
    exact⟨_,rfl,h,(fun hq=>(Bool.false_ne_true hq).elim),fun _=>rfl⟩
  | cons x l=>
    have hxl:x.Value.length≤4096:=h.ov x (by rw [hout]; exact List.mem_cons_self ..)
    have hll:l.length≤63:=by rw [hout] at ho; simp at ho; omega
    have i0:idx (x::l) 0=some x:=rfl
    have hs:=sub_nat (x::l) 1 (x::l).length (by simp) (by omega)
    rw [List.take_length,show ((1:Nat):Int)=1 from rfl,← lN] at hs
    rw [if_neg (by rw [lN,List.length_cons]; simp; omega),i0]
    simp only [Option.bind_some]
    rw [hs]
    simp only [Option.bind_some,List.drop_succ_cons,List.drop_zero]
    obtain⟨r,hr⟩:=rm_some F x.Kind s.MTU
    obtain⟨c,hc,hcl⟩:=cut_some F x.Value r hxl hF
    rw [hr,Option.bind_some,hc,Option.bind_some]
    have hinv:∀(w:Bool) (t:Int),Inv { s with Out:=l,Wait:=w,Since:=t } n:=fun w t=>⟨h.d,h.a,h.sb,h.q,h.qv,(show l.length≤64 by omega),fun y hy=>h.ov y (by rw [hout]; exact List.mem_cons_of_mem _ hy)⟩
    unfold q6l q4z q6k
    by_cases hk:(x.Kind == 29)=true
    · rw [if_pos hk,if_pos hk,Option.bind_some]
      by_cases hw:s.Wait=true
      · rw [if_pos hw]
        exact⟨_,rfl,h,(fun hq=>(Bool.false_ne_true hq).elim),fun _=>rfl⟩
      · rw [if_neg hw]
        exact⟨_,rfl,hinv true 0,(fun _=>⟨(Bool.not_eq_true _).mp hw,rfl⟩),(fun hq=>absurd (show (x.Kind == 29)=false from hq) (by rw [hk]; decide))⟩
    · rw [if_neg hk,if_neg hk,Option.bind_some,if_neg (by decide)]
      exact⟨_,rfl,hinv s.Wait s.Since,(fun hq=>absurd hq hk),fun _=>rfl⟩
theorem rep_some (F:Nat) {s:Txa} {n:Nat} (h:Inv s n) (hn:n≤900) {db:List Tx1} (hdl:db.length≤80) (hdb:∀a∈db,AOk a∧a.Value.length≤4096) (hF:1000000020<F) :
    ∃r,q11 F s db=some r∧StW s r.1 n:=by
  have hsb:=h.sb
  have hd:=h.d
  unfold q11
  obtain⟨e,he⟩:=ucheck F db (fun a ha=>(hdb a ha).1) (by omega) (by omega)
  rw [uof F s (h.sv (by omega)) (by omega),Option.bind_some,he,Option.bind_some]
  split
  · exact⟨_,rfl,h,rfl⟩
  · obtain⟨y1,k1,_⟩:=hash_u F db (fun a ha=>(hdb a ha).1) (fun a ha=>by have:=(hdb a ha).2; omega) (by omega) hF
    obtain⟨y2,k2,_⟩:=hash_u F s.DB (fun a ha=>(h.a a ha).1) (fun a ha=>by have:=(h.a a ha).2; omega) (by omega) hF
    rw [k1,Option.bind_some]
    show ∃r,(qr F s.DB).bind _=some r∧_
    rw [k2,Option.bind_some]
    unfold q6e
    rw [uattrs F db (fun a ha=>(hdb a ha).1.l) (by omega) (by omega),Option.bind_some]
    split
    · exact⟨_,rfl,⟨hdl,hdb,hsb,h.q,h.qv,h.o,h.ov⟩,rfl⟩
    · obtain⟨subs,g1,g2⟩:=iter_by (body:=fun t:List Tx2×Int=>q2p F db (Txc.mk s []) t.1 t.2) (fun t=>∃i:Nat,t.2=(i:Int)∧i≤s.Subs.length∧t.1.length≤i) (fun o=>o.length≤s.Subs.length) (fun t=>s.Subs.length - t.2.toNat) (by
        rintro⟨l,x⟩ ⟨i,hx,hi,hl⟩
        simp only at hx hl
        subst hx
        show (∃t1,q2p F db (Txc.mk s []) l (i:Int)=some (.next t1)∧_)∨∃o1,q2p F db (Txc.mk s []) l (i:Int)=some (.done o1)∧_
        unfold q2p
        simp only
        by_cases hin:i<s.Subs.length
        · have hx:s.Subs[i]? = some s.Subs[i]:=List.getElem?_eq_getElem hin
          generalize hq:s.Subs[i]=b at hx
          rw [if_pos (dt (show (i:Int)<len s.Subs by rw [lN]; omega)),dN,hx,Option.bind_some]
          obtain⟨y,hy⟩:=subo_some F db b.Handle (by omega) (by omega)
          rw [hy,Option.bind_some]
          unfold q4w
          split
          · rw [app_k (by decide) (by simp; omega),Option.bind_some]
            exact .inl ⟨_,rfl,⟨i+1,wN i (by omega),by omega,by simp; omega⟩,by simp only; rw [wN i (by omega)]; omega⟩
          · exact .inl ⟨_,rfl,⟨i+1,wN i (by omega),by omega,by simp only; omega⟩,by simp only; rw [wN i (by omega)]; omega⟩
        · rw [if_neg (df (show ¬ (i:Int)<len s.Subs by rw [lN]; omega))]
          exact .inr ⟨_,rfl,by omega⟩) F ([],0) ⟨0,rfl,by omega,by simp⟩ (by simp only; omega)
      rw [g1,Option.bind_some]
      unfold q6d
      obtain⟨out,g3,g4⟩:=iter_by (body:=fun t:Int=>q2o F db subs t) (fun t=>∃i:Nat,t=(i:Int)∧i≤subs.length) (fun o=>o=[]∨∃hd,o=[Tx4.mk 29 0 hd 0 (Tx0.mk 0 0) 0 0 0 false [1,0,255,255] []]) (fun t=>subs.length - t.toNat) (by
        rintro t ⟨i,rfl,hi⟩
        show (∃t1,q2o F db subs (i:Int)=some (.next t1)∧_)∨∃o1,q2o F db subs (i:Int)=some (.done o1)∧_
        unfold q2o
        by_cases hin:i<subs.length
        · have hx:subs[i]? = some subs[i]:=List.getElem?_eq_getElem hin
          generalize hq:subs[i]=b at hx
          rw [if_pos (dt (show (i:Int)<len subs by rw [lN]; omega)),dN,hx,Option.bind_some,ufind F db _ (by omega) (by omega),Option.bind_some]
          unfold q6c
          have hz:∃z,(if (((iand .i64 b.Bits 2) != 0)&&(decide (fnd db b.Handle≥0)))=true then
              (idx db (fnd db b.Handle)).bind fun x_15=>(q8 F x_15.fT 10757).bind fun x_16=>some (x_16)
            else some (false))=some z:=by
            split
            · rename_i hc
              rw [Bool.and_eq_true] at hc
              have hc:=of_decide_eq_true hc.2
              rcases fnd_cases db b.Handle with q | ⟨k,q,hk⟩
              · omega
              · rw [q,dN,List.getElem?_eq_getElem hk,Option.bind_some,sis F _ _ (by decide) (by decide)]
                exact⟨_,rfl⟩
            · exact⟨_,rfl⟩
          obtain⟨z,hz⟩:=hz
          rw [hz,Option.bind_some]
          split
          · exact .inr ⟨_,rfl,.inr ⟨_,rfl⟩⟩
          · exact .inl ⟨_,rfl,⟨i+1,wN i (by omega),by omega⟩,by rw [wN i (by omega)]; omega⟩
        · rw [if_neg (df (show ¬ (i:Int)<len subs by rw [lN]; omega))]
          exact .inr ⟨_,rfl,.inl rfl⟩) F 0 ⟨0,rfl,by omega⟩ (by simp; omega)
      rw [g3,Option.bind_some]
      refine ⟨_,rfl,⟨hdl,hdb,(show subs.length≤n by omega),(show (0:Nat)≤16 by omega),(fun y hy=>by cases hy),?_,?_⟩,rfl⟩
      · show out.length≤64
        rcases g4 with rfl | ⟨hd,rfl⟩
        · simp
        · simp
      · show ∀x∈out,_
        rcases g4 with rfl | ⟨hd,rfl⟩
        · intro x hx; cases hx
        · intro x hx
          simp at hx
          subst hx
          show ([1,0,255,255]:List Int).length≤_
          decide
theorem new_some (F:Nat) {db:List Tx1} (hdb:∀a∈db,AOk a) (mx lv:Int) (rb:Bool) (aw:Int) {subs:List Tx2} (hn:db.length≤1000) (hsn:subs.length≤1000) (hF:1000000020<F) :
    ∃x,q1n F db mx lv rb aw subs=some x∧((x.2≠0)∨x=(mkS db mx lv rb aw subs,0)):=by
  obtain⟨e,h1⟩:=ucheck F db hdb (by omega) (by omega)
  unfold q1n
  rw [h1,Option.bind_some]
  by_cases he:(e != 0)=true
  · rw [if_pos he]
    exact⟨_,rfl,.inl (bne_iff_ne.1 he)⟩
  · rw [if_neg he]
    split
    · exact⟨_,rfl,.inl (by decide)⟩
    · obtain⟨o1,g1,g3⟩:=iter_by (body:=fun s:Int×Int=>q2b F db subs s.1 s.2)
        (fun s=>∃i:Nat,i≤subs.length∧s.2=(i:Int)) (fun a=>a = .inl ()∨∃x,a = .inr x∧x.2≠0) (fun s=>subs.length - s.2.toNat) (by
        rintro⟨last,x⟩ ⟨i,hi1,hx⟩
        simp only at hx
        subst hx
        show (∃t1,q2b F db subs last (i:Int)=some (.next t1)∧_)∨∃o1,q2b F db subs last (i:Int)=some (.done o1)∧_
        unfold q2b
        by_cases hin:i<subs.length
        · have hx:subs[i]? = some subs[i]:=List.getElem?_eq_getElem hin
          generalize hq:subs[i]=s at hx
          rw [if_pos (dt (show (i:Int)<len subs by rw [lN]; omega)),dN,hx,Option.bind_some]
          obtain⟨y,hy⟩:=subo_some F db s.Handle (by omega) (by omega)
          rw [hy,Option.bind_some]
          split
          · exact .inr ⟨_,rfl,.inr ⟨_,rfl,by decide⟩⟩
          · split
            · exact .inr ⟨_,rfl,.inr ⟨_,rfl,by decide⟩⟩
            · split
              · exact .inr ⟨_,rfl,.inr ⟨_,rfl,by decide⟩⟩
              · exact .inl ⟨_,rfl,⟨i+1,by omega,wN i (by omega)⟩,by simp only; rw [wN i (by omega)]; omega⟩
        · rw [if_neg (df (show ¬ (i:Int)<len subs by rw [lN]; omega))]
          exact .inr ⟨_,rfl,.inl rfl⟩) F (0,0) ⟨0,by omega,rfl⟩ (by simp only; omega)
      rw [g1]
      rcases g3 with rfl | ⟨x,rfl,hx⟩
      · simp only [Option.bind_some]
        unfold q5q
        rw [uattrs F db (fun a ha=>(hdb a ha).l) (by omega) (by omega),uclone F subs (by omega)]
        exact⟨_,rfl,.inr rfl⟩
      · exact⟨_,rfl,.inl hx⟩
end V
end Go.Proofs.YtoahakdkgefgiaaGreat

namespace Go.Proofs.YtoahakdkgefgiaaGreat
namespace V
structure StOk (y:Tx5):Prop where
  p:POk y.PDU
  v:∀x∈y.Value,Byte x
  o0:0≤y.Other
  o1:y.Other<256
structure ScOk (x:Tx6):Prop where
  d1:∀a∈x.DBs.1,AOk a
  d2:∀a∈x.DBs.2,AOk a
  l1:x.DBs.1.length≤140737488355328
  l2:x.DBs.2.length≤140737488355328
  s:∀y∈x.Steps,StOk y
theorem small_ok (F:Nat) (x:Tx6) (h1:x.DBs.1.length≤140737488355328) (h2:x.DBs.2.length≤140737488355328) (hF:1000<F):∃b,q2v F x=some b∧(b=true→(x.DBs.1.length≤80∧∀a∈x.DBs.1,a.Value.length≤4096)∧(x.DBs.2.length≤80∧∀a∈x.DBs.2,a.Value.length≤4096)∧x.Subs.length≤100∧x.Steps.length≤100∧∀y∈x.Steps,y.Value.length≤4096∧y.PDU.Value.length≤4096):=by
  unfold q2v
  obtain⟨o,g1,g2⟩:=iter_by (body:=fun s:Int×Int=>q26 F x s.1 s.2) (fun s=>∃i:Nat,s.2=(i:Int)∧i≤x.Steps.length∧i≤100∧∀y∈x.Steps.take i,y.Value.length≤4096∧y.PDU.Value.length≤4096)
    (fun o=>(∃n,o = .inl n∧∀y∈x.Steps.take 100,y.Value.length≤4096∧y.PDU.Value.length≤4096)∨o = .inr false) (fun s=>100 - s.2.toNat) (by
    rintro⟨n,q⟩ ⟨i,hx,hi,hi2,hall⟩
    simp only at hx
    subst hx
    show (∃s',q26 F x n (i:Int)=some (.next s')∧_)∨∃o,q26 F x n (i:Int)=some (.done o)∧_
    unfold q26
    by_cases hin:i<x.Steps.length∧i<100
    · have hxa:x.Steps[i]? = some x.Steps[i]:=List.getElem?_eq_getElem hin.1
      generalize hq:x.Steps[i]=y at hxa
      rw [if_pos (by rw [dt (show (i:Int)<len x.Steps by rw [lN]; omega),dt (show (i:Int)<100 by omega)]; rfl),dN,hxa]
      simp only [Option.bind_some]
      have hz:∃z:Bool,(if decide (len y.Value > 4096)=true then some true else some (decide (len y.PDU.Value > 4096)))=some z∧(z=false→y.Value.length≤4096∧y.PDU.Value.length≤4096):=by
        by_cases h:len y.Value > 4096
        · rw [if_pos (dt h)]
          exact⟨_,rfl,fun h=>by cases h⟩
        · rw [if_neg (df h)]
          refine ⟨_,rfl,fun hq=>?_⟩
          have hq:=of_decide_eq_false hq
          rw [lN] at h hq
          exact⟨by omega,by omega⟩
      obtain⟨z,hz,hz2⟩:=hz
      rw [hz,Option.bind_some]
      cases z with
      | true=>
        rw [if_pos rfl,Option.bind_some,if_pos rfl]
        exact .inr ⟨_,rfl,.inr rfl⟩
      | false=>
        rw [if_neg (by decide),Option.bind_some]
        split
        · exact .inr ⟨_,rfl,.inr rfl⟩
        · refine .inl ⟨_,rfl,⟨i+1,wN i (by omega),by omega,by omega,?_⟩,by simp only; rw [wN i (by omega)]; omega⟩
          intro c hc
          rw [List.take_add_one,hxa] at hc
          rcases List.mem_append.1 hc with hc | hc
          · exact hall c hc
          · simp at hc; subst hc; exact hz2 rfl
    · rw [if_neg (by
        rw [Bool.and_eq_true]
        rintro⟨h1,h2⟩
        have h1:=of_decide_eq_true h1
        have h2:=of_decide_eq_true h2
        rw [lN] at h1
        omega)]
      refine .inr ⟨_,rfl,.inl ⟨_,rfl,fun a ha=>hall a ?_⟩⟩
      have e:x.Steps.take 100=x.Steps.take i:=by
        by_cases h:i<x.Steps.length
        · rw [show i=100 from by omega]
        · rw [List.take_of_length_le (by omega),List.take_of_length_le (by omega)]
      rwa [e] at ha) F (0,0) ⟨0,rfl,by omega,by omega,by simp⟩ (by simp only; omega)
  rw [g1,Option.bind_some]
  rcases g2 with ⟨n,rfl,h3⟩ | rfl
  · simp only
    unfold q52
    obtain⟨b1,k1,k2⟩:=light_ok F x.DBs.1 (by omega) (by omega)
    obtain⟨b2,k3,k4⟩:=light_ok F x.DBs.2 (by omega) (by omega)
    rw [k1,Option.bind_some,k3]
    have hz:((if b1=true then (some b2).bind fun x_7=>some x_7 else some false):Option Bool)=some (b1&&b2):=by cases b1 <;> rfl
    rw [hz,Option.bind_some]
    refine ⟨_,rfl,fun hb=>?_⟩
    simp only [Bool.and_eq_true,decide_eq_true_eq] at hb
    obtain⟨⟨⟨⟨q1,q2⟩,q3⟩,q4⟩,_⟩:=hb
    rw [lN] at q3 q4
    refine ⟨k2 q1,k4 q2,by omega,by omega,fun y hy=>h3 y ?_⟩
    rwa [List.take_of_length_le (by omega)]
  · exact⟨false,rfl,fun h=>by cases h⟩
theorem indicates_law (x:Tx6) (h:ScOk x):q2u FF x=some true:=by
  have hFF:FF=1125899906842624:=rfl
  obtain⟨b,g1,g2⟩:=small_ok FF x h.l1 h.l2 (by omega)
  unfold q2u
  rw [g1,Option.bind_some]
  cases b with
  | false=>
    rw [if_pos (show (!false)=true from rfl),example_ok]; rfl
  | true=>
    rw [if_neg (by decide)]
    obtain⟨⟨m1,v1⟩,⟨m2,v2⟩,ms,mt,mv⟩:=g2 rfl
    obtain⟨r,r1,r2⟩:=new_some FF h.d1 x.Max x.Level x.Robust x.Aware (subs:=x.Subs) (by omega) (by omega) (by omega)
    rw [r1,Option.bind_some]
    rcases r2 with r2 | rfl
    · rw [if_pos (bne_iff_ne.2 r2),example_ok]; rfl
    · rw [if_neg (show ¬ ((0:Int) != 0)=true by decide)]
      have hin:Inv (mkS x.DBs.1 x.Max x.Level x.Robust x.Aware x.Subs) 100:=⟨m1,fun a ha=>⟨h.d1 a ha,v1 a ha⟩,ms,by simp [mkS],(fun y hy=>by cases hy),by simp [mkS],(fun y hy=>by cases hy)⟩
      obtain⟨o,o1,o2⟩:=iter_by (body:=fun s:Txa×Bool×Int=>q2t FF x s.1 s.2.1 s.2.2) (fun s=>∃i:Nat,s.2.2=(i:Int)∧i≤x.Steps.length∧Inv s.1 (100+i)∧(s.2.1=true→s.1.Wait=true)) (fun o=>o = .inl ()) (fun s=>x.Steps.length - s.2.2.toNat) (by
        rintro⟨s,op,q⟩ ⟨i,hx,hi,hs,hop⟩
        simp only at hx hs hop
        subst hx
        show (∃s',q2t FF x s op (i:Int)=some (.next s')∧_)∨∃o,q2t FF x s op (i:Int)=some (.done o)∧_
        unfold q2t
        by_cases hil:i<x.Steps.length
        · have hxa:x.Steps[i]? = some x.Steps[i]:=List.getElem?_eq_getElem hil
          have hy:=h.s _ (List.getElem_mem hil)
          have hv:=mv _ (List.getElem_mem hil)
          generalize x.Steps[i]=y at hxa hy hv
          rw [if_pos (dt (show (i:Int)<len x.Steps by rw [lN]; omega)),dN,hxa,Option.bind_some]
          have hnext:∀(c:Txa) (z:Bool),Inv c (100+i+1)→(z=true→c.Wait=true)→(∃s',q24 FF (i:Int) c z=some (.next s')∧(∃i:Nat,s'.2.2=(i:Int)∧i≤x.Steps.length∧Inv s'.1 (100+i)∧(s'.2.1=true→s'.1.Wait=true))∧x.Steps.length - s'.2.2.toNat<x.Steps.length - (i:Int).toNat):=fun c z hc hz=>
            ⟨_,rfl,⟨i+1,wN i (by omega),by omega,hc,hz⟩,by simp only; rw [wN i (by omega)]; omega⟩
          have hup:=hs.up (show 100+i≤100+i+1 by omega)
          by_cases c0:(y.Call == 0)=true
          · rw [if_pos c0]
            have hpl:=hy.p.l
            obtain⟨e,he⟩:=rcheckPDU FF hy.p (by omega)
            rw [he,Option.bind_some]
            split
            · obtain⟨r,k1,k2,k3⟩:=hdl_some FF hs (by omega) hy.p hv.2 (by omega)
              rw [k1,Option.bind_some]
              refine .inl (hnext _ _ k2 fun hz=>?_)
              rw [Bool.and_eq_true] at hz
              rw [k3 (bne_iff_ne.1 hz.2)]
              exact hop hz.1
            · exact .inl (hnext _ _ hup hop)
          · rw [if_neg c0]
            by_cases c1:(y.Call == 1)=true
            · rw [if_pos c1]
              obtain⟨r,k1,k2,k3⟩:=ntf_some FF hs (by omega) y.Handle y.Value hv.1 hy.v (by omega)
              rw [k1,Option.bind_some]
              exact .inl (hnext _ _ (k2.up (by omega)) fun hz=>by rw [k3]; exact hop hz)
            · rw [if_neg c1]
              by_cases c3:(y.Call == 3)=true
              · rw [if_pos c3]
                by_cases m0:(remp y.Other 2 == 0)=true
                · rw [if_pos m0]
                  obtain⟨r,k1,k2,k3⟩:=rep_some FF hs (by omega) m1 (fun a ha=>⟨h.d1 a ha,v1 a ha⟩) (by omega)
                  rw [k1,Option.bind_some]
                  exact .inl (hnext _ _ (k2.up (by omega)) fun hz=>by rw [k3]; exact hop hz)
                · rw [if_neg m0]
                  have m1':(remp y.Other 2 == 1)=true:=by
                    have e:remp y.Other 2=y.Other % 2:=Int.tmod_eq_emod_of_nonneg hy.o0
                    rw [e] at m0 ⊢
                    simp only [beq_iff_eq] at m0 ⊢
                    omega
                  rw [if_pos m1']
                  obtain⟨r,k1,k2,k3⟩:=rep_some FF hs (by omega) m2 (fun a ha=>⟨h.d2 a ha,v2 a ha⟩) (by omega)
                  rw [k1,Option.bind_some]
                  exact .inl (hnext _ _ (k2.up (by omega)) fun hz=>by rw [k3]; exact hop hz)
              · rw [if_neg c3]
                obtain⟨r,k1,k2,k3,k4⟩:=out_some FF hs (by omega) (by omega)
                rw [k1,Option.bind_some]
                unfold q51
                by_cases hk:(r.2.2&&(r.2.1.Kind == 29))=true
                · rw [if_pos hk]
                  obtain⟨w1,w2⟩:=k3 hk
                  have hopf:¬ op=true:=fun ho=>by rw [hop ho] at w1; cases w1
                  rw [if_neg hopf]
                  exact .inl (hnext _ _ (k2.up (by omega)) fun _=>w2)
                · rw [if_neg hk]
                  exact .inl (hnext _ _ (k2.up (by omega)) fun hz=>by rw [k4 ((Bool.not_eq_true _).mp hk)]; exact hop hz)
        · rw [if_neg (df (show ¬ (i:Int)<len x.Steps by rw [lN]; omega))]
          exact .inr ⟨_,rfl,rfl⟩) FF (mkS x.DBs.1 x.Max x.Level x.Robust x.Aware x.Subs,false,0) ⟨0,rfl,by omega,hin,(fun h=>by cases h)⟩ (by simp only; omega)
      simp only
      rw [o1,Option.bind_some,o2]
      show q50 FF=_
      unfold q50
      rw [example_ok]; rfl
end V
end Go.Proofs.YtoahakdkgefgiaaGreat
