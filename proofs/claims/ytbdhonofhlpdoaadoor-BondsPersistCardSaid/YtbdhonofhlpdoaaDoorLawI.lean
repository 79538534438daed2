/- Numbers, bytes, the checksum, values, bonds. -/
import Derived.Test.YtbdhonofhlpdoaaDoorLoop
import Derived.Test.YtbdhonofhlpdoaaDoorFx
import Derived.KernelRfl
namespace Go.Proofs.YtbdhonofhlpdoaaDoor
namespace V
theorem dt {p:Prop} [Decidable p] (h:p):decide p=true:=decide_eq_true h
theorem df {p:Prop} [Decidable p] (h:¬ p):¬ decide p=true:=by simpa using h
def FF:Nat:=1125899906842624
def Byte (x:Int):Prop:=0≤x∧x<256
def leb:Nat→Int→List Int
  | 0,_=>[]
  | k+1,n=>n % 256::leb k (n / 256)
def num:List Int→Int
  | []=>0
  | b::r=>b+256 * num r
theorem leb_length:∀k n,(leb k n).length=k
  | 0,_=>rfl
  | k+1,n=>by simp [leb,leb_length k]
theorem leb_byte:∀k n,∀x∈leb k n,Byte x
  | 0,_,x,h=>by cases h
  | k+1,n,x,h=>by
    rcases List.mem_cons.1 h with rfl | h
    · exact⟨Int.emod_nonneg _ (by decide),Int.emod_lt_of_pos _ (by decide)⟩
    · exact leb_byte k _ x h
theorem pow_succ256 (k:Nat):(256:Int) ^ (k+1)=256 * 256 ^ k:=by rw [Int.pow_succ,Int.mul_comm]
theorem pow_pos256 (k:Nat):(0:Int)<256 ^ k:=Int.pow_pos (by decide)
theorem leb_snoc:∀(k:Nat) (n:Int),leb (k+1) n=leb k n++[n / 256 ^ k % 256]
  | 0,n=>by simp [leb]
  | k+1,n=>by
    have:=leb_snoc k (n / 256)
    rw [leb,this,leb,List.cons_append,pow_succ256,Int.ediv_ediv_of_nonneg (by decide:(0:Int)≤256)]
theorem num_leb:∀(k:Nat) (n:Int),num (leb k n)=n % 256 ^ k
  | 0,n=>by simp [leb,num,Int.emod_one]
  | k+1,n=>by
    rw [leb,num,num_leb k,pow_succ256,← Int.emod_add_mul_ediv (n % (256 * 256 ^ k)) 256]
    have h1:n % (256 * 256 ^ k) % 256=n % 256:=Int.emod_emod_of_dvd _ (Int.dvd_mul_right ..)
    have h2:n % (256 * 256 ^ k) / 256=n / 256 % 256 ^ k:=by
      have:=pow_pos256 k
      rw [Int.emod_def,Int.emod_def (n / 256),← Int.ediv_ediv_of_nonneg (by decide:(0:Int)≤256),Int.mul_assoc,Int.sub_mul_ediv_left _ _ (by decide)]
    rw [h1,h2]
theorem num_nonneg:∀{l:List Int},(∀x∈l,Byte x)→0≤num l
  | [],_=>by simp [num]
  | b::r,h=>by
    have h1:=(h b (by simp)).1
    have h2:=num_nonneg (l:=r) fun x hx=>h x (by simp [hx])
    simp only [num]; omega
theorem num_lt:∀{l:List Int},(∀x∈l,Byte x)→num l<256 ^ l.length
  | [],_=>by simp [num]
  | b::r,h=>by
    have h1:=(h b (by simp)).2
    have h2:=num_lt (l:=r) fun x hx=>h x (by simp [hx])
    simp only [num,List.length_cons,pow_succ256]; omega
theorem leb_num:∀{l:List Int},(∀x∈l,Byte x)→leb l.length (num l)=l
  | [],_=>rfl
  | b::r,h=>by
    obtain⟨h0,h1⟩:=h b (by simp)
    have hr:=leb_num (l:=r) fun x hx=>h x (by simp [hx])
    simp only [List.length_cons,leb,num]
    rw [show (b+256 * num r) % 256=b from by omega,show (b+256 * num r) / 256=num r from by omega,hr]
theorem num_append:∀(l m:List Int),num (l++m)=num l+256 ^ l.length * num m
  | [],m=>by simp [num]
  | b::r,m=>by
    simp only [List.cons_append,num,List.length_cons,pow_succ256,num_append r m,Int.mul_add,Int.mul_assoc]
    omega
theorem tmod256 {n:Int} (h:0≤n):n.tmod 256=n % 256:=Int.tmod_eq_emod_of_nonneg h
theorem tdiv256 {n:Int} (h:0≤n):n.tdiv 256=n / 256:=Int.tdiv_eq_ediv_of_nonneg h
theorem app_cat {l m:List Int} (h:l.length+m.length≤140737488355328):app 1 l m=some (l++m):=by
  rw [app_small (by omega) (by omega)]
theorem str_bytes:∀{l:List Int},(∀x∈l,Byte x)→str l=l
  | [],_=>rfl
  | b::r,h=>by
    obtain⟨h0,h1⟩:=h b (by simp)
    have hr:=str_bytes (l:=r) fun x hx=>h x (by simp [hx])
    unfold str at hr ⊢
    rw [List.map_cons,hr]
    congr 1
    have:(UInt8.ofNat b.toNat).toNat=b.toNat:=by
      simp
      omega
    rw [this]
    omega
theorem join_step (F:Nat) (ps:List (List Int)) (l:List Int) (i:Nat) (x:List Int) (hx:ps[i]? = some x) (hl:l.length+x.length≤140737488355328) (hi:ps.length≤9000000000000000000):octets_Join_l1 F ps l i=some (.next (l++x,((i+1:Nat):Int))):=by
  have hlt:i<ps.length:=(List.getElem?_eq_some_iff.1 hx).1
  unfold octets_Join_l1
  have hd:decide ((i:Int)<len ps)=true:=by simp [len]; omega
  rw [if_pos hd,idx_nat,hx]
  simp only [Option.bind_some]
  rw [app_cat hl]
  simp only [Option.bind_some]
  rw [w64_nat i (by omega)]
theorem join_two (F:Nat) (a b:List Int) (hF:2<F) (h:a.length+b.length≤140737488355328):octets_Join F [a,b]=some (a++b):=by
  unfold octets_Join
  obtain⟨F',rfl⟩:∃F',F=F'+1+1+1:=⟨F - 3,by omega⟩
  have h1:octets_Join_l1 (F'+1+1+1) [a,b] [] 0=some (.next (a,1)):=by simpa using join_step (F'+1+1+1) [a,b] [] 0 a rfl (by simp; omega) (by simp)
  have h2:octets_Join_l1 (F'+1+1+1) [a,b] a 1=some (.next (a++b,2)):=by simpa using join_step (F'+1+1+1) [a,b] a 1 b rfl (by omega) (by simp)
  rw [iter_step h1,iter_step h2,iter_stop (o:=a++b) (by unfold octets_Join_l1; rw [if_neg (by simp [len])])]
  rfl
theorem join_one (F:Nat) (a:List Int) (hF:1<F) (h:a.length≤140737488355328):octets_Join F [a]=some a:=by
  unfold octets_Join
  obtain⟨F',rfl⟩:∃F',F=F'+1+1:=⟨F - 2,by omega⟩
  have h1:octets_Join_l1 (F'+1+1) [a] [] 0=some (.next (a,1)):=by simpa using join_step (F'+1+1) [a] [] 0 a rfl (by simp; omega) (by simp)
  rw [iter_step h1,iter_stop (o:=a) (by unfold octets_Join_l1; rw [if_neg (by simp [len])])]
  rfl
theorem nat_or_add (a b i:Nat) (ha:a<2 ^ i):a ||| (b * 2 ^ i)=a+b * 2 ^ i:=by
  have h:=Nat.shiftLeft_add_eq_or_of_lt ha b
  rw [Nat.shiftLeft_eq] at h
  rw [Nat.or_comm,← h,Nat.add_comm]
theorem pow256 (i:Nat):(256:Int) ^ i=((2 ^ (8 * i):Nat):Int):=by
  rw [Nat.pow_mul,show (2:Nat) ^ 8=256 from by decide]
  exact (congrArg (fun z:Int=>z ^ i) (rfl:(256:Int)=((256:Nat):Int))).trans (Int.natCast_pow 256 i).symm
theorem ior_add (a b:Int) (i:Nat) (hi:i<8) (h0:0≤a) (h1:a<256 ^ i) (h2:Byte b):ior .u64 a (b * 256 ^ i)=a+b * 256 ^ i:=by
  obtain⟨b0,b1⟩:=h2
  obtain⟨a,rfl⟩:=Int.eq_ofNat_of_zero_le h0
  obtain⟨b,rfl⟩:=Int.eq_ofNat_of_zero_le b0
  have hp:=pow256 i
  rw [hp] at h1 ⊢
  have ha:a<2 ^ (8 * i):=by exact_mod_cast h1
  have hb:b<256:=by omega
  have hle:(2:Nat) ^ (8 * i)≤2 ^ 56:=Nat.pow_le_pow_right (by decide) (by omega)
  have hbl:b * 2 ^ (8 * i)<2 ^ 64:=by
    have:b * 2 ^ (8 * i)≤255 * 2 ^ 56:=Nat.mul_le_mul (by omega) hle
    omega
  have hs:a+b * 2 ^ (8 * i)<2 ^ 64:=by
    have:(b+1) * 2 ^ (8 * i)≤256 * 2 ^ 56:=Nat.mul_le_mul (by omega) hle
    rw [Nat.add_mul] at this
    omega
  unfold ior
  have e:((b:Int) * ((2 ^ (8 * i):Nat):Int))=((b * 2 ^ (8 * i):Nat):Int):=by rw [Int.natCast_mul]
  have e2:(BitVec.ofInt IntKind.u64.bits (a:Int) ||| BitVec.ofInt IntKind.u64.bits ((b:Int) * ((2 ^ (8 * i):Nat):Int))).toNat=a+b * 2 ^ (8 * i):=by
    rw [e,BitVec.toNat_or]
    show (BitVec.ofInt 64 (a:Int)).toNat ||| (BitVec.ofInt 64 ((b * 2 ^ (8 * i):Nat):Int)).toNat=_
    rw [BitVec.toNat_ofInt,BitVec.toNat_ofInt]
    rw [show (((a:Nat):Int) % ((2 ^ 64:Nat):Int)).toNat=a from by rw [← Int.natCast_emod,Int.toNat_natCast,Nat.mod_eq_of_lt (by omega)]]
    rw [show (((b * 2 ^ (8 * i):Nat):Int) % ((2 ^ 64:Nat):Int)).toNat=b * 2 ^ (8 * i) from by rw [← Int.natCast_emod,Int.toNat_natCast,Nat.mod_eq_of_lt hbl]]
    exact nat_or_add a b (8 * i) ha
  rw [e2,wrap_u64]
  unfold wu64
  rw [Int.natCast_add,Int.natCast_mul]
  rw [show ((a:Int)+(b:Int) * ((2 ^ (8 * i):Nat):Int))=((a+b * 2 ^ (8 * i):Nat):Int) from by rw [Int.natCast_add,Int.natCast_mul]]
  omega
theorem pow2_nat (i:Nat):(2:Int) ^ (8 * i)=((2 ^ (8 * i):Nat):Int):=(congrArg (fun z:Int=>z ^ (8 * i)) (rfl:(2:Int)=((2:Nat):Int))).trans (Int.natCast_pow 2 (8 * i)).symm
theorem shl_le (x i:Nat) (h1:(x:Int)<256) (hi:i<8):x * 2 ^ (8 * i)≤255 * 2 ^ 56:=by
  have hle:(2:Nat) ^ (8 * i)≤2 ^ 56:=Nat.pow_le_pow_right (by decide) (by omega)
  exact Nat.mul_le_mul (by omega) hle
theorem wu64_le (q:Nat) (hb:q≤255 * 2 ^ 56):wu64 (q:Int)=q:=by
  rw [wu64_id (by omega) (by omega)]
theorem shl_core (x i:Nat) (hi:i<8):ishl .u64 (x:Int) (8 * i)=some (IntKind.u64.wrap ((x:Int) * 2 ^ (8 * i))):=by
  unfold ishl
  rw [if_neg (by omega)]
  have e1:min (8 * (i:Int)).toNat IntKind.u64.bits=8 * i:=by
    show min (8 * (i:Int)).toNat 64=8 * i
    omega
  rw [e1]
theorem shl_bytes {x:Int} (hx:Byte x) (i:Nat) (hi:i<8):ishl .u64 (wu64 x) (w64 (8 * i))=some (x * 256 ^ i):=by
  obtain⟨h0,h1⟩:=hx
  obtain⟨x,rfl⟩:=Int.eq_ofNat_of_zero_le h0
  have e1:w64 (8 * (i:Int))=8 * i:=w64_id (by omega) (by omega)
  have e2:wu64 (x:Int)=x:=wu64_id (by omega) (by omega)
  have e3:=wu64_le _ (shl_le x i h1 hi)
  rw [Int.natCast_mul,← pow2_nat] at e3
  have e4:(256:Int) ^ i=2 ^ (8 * i):=(pow256 i).trans (pow2_nat i).symm
  rw [e1,e2,shl_core x i hi,wrap_u64,e3,e4]
theorem shr_bytes {v:Int} (i:Nat) (hi:i≤8) (_h0:0≤v):ishr .u64 v (w64 (8 * i))=some (v / 256 ^ i):=by
  rw [w64_id (by omega) (by omega)]
  unfold ishr
  rw [if_neg (by omega)]
  have h1:min (8 * (i:Int)).toNat IntKind.u64.bits=8 * i:=by
    show min (8 * (i:Int)).toNat 64=8 * i
    omega
  rw [h1,show (2:Int) ^ (8 * i)=256 ^ i from by rw [Int.pow_mul]; rfl,Int.fdiv_eq_ediv_of_nonneg _ (Int.le_of_lt (pow_pos256 i))]
structure FieldOk (f:T_Field):Prop where
  s0:1≤f.Size
  s1:f.Size≤8
  v0:0≤f.Value
  v1:f.Value<18446744073709551616
  v2:f.Value<256 ^ f.Size.toNat
theorem oput_in (F:Nat) (x:T_Field) (hx:FieldOk x) (l:List Int) (hl:l.length≤1000000) (hF:9<F):iter (fun s=>octets_Put_l2 F x s.1 s.2) F (l,0)=some (l++leb x.Size.toNat x.Value):=by
  obtain⟨s0,s1,v0,v1,v2⟩:=hx
  have:=iter_count (body:=fun s:List Int×Int=>octets_Put_l2 F x s.1 s.2) (fun i=>(l++leb i x.Value,(i:Int))) x.Size.toNat (l++leb x.Size.toNat x.Value) (by
    intro i hi
    show octets_Put_l2 F x (l++leb i x.Value) i=_
    unfold octets_Put_l2
    rw [if_pos (by simp; omega),shr_bytes i (by omega) v0]
    simp only [Option.bind_some]
    rw [app_cat (by simp [leb_length]; omega)]
    simp only [Option.bind_some]
    rw [w64_nat i (by omega),leb_snoc,List.append_assoc]
    rfl) (by
    show octets_Put_l2 F x _ _=_
    unfold octets_Put_l2
    rw [if_neg (by simp; omega)]) F 0 (by omega) (by omega)
  simpa [leb] using this
def putAll (fs:List T_Field):List Int:=(fs.map fun f=>leb f.Size.toNat f.Value).flatten
theorem putAll_len:∀{fs:List T_Field},(∀f∈fs,FieldOk f)→(putAll fs).length≤8 * fs.length
  | [],_=>by simp [putAll]
  | f::fs,h=>by
    have h1:=h f (by simp)
    have h2:=putAll_len (fs:=fs) fun g hg=>h g (by simp [hg])
    obtain⟨s0,s1,_⟩:=h1
    simp only [putAll,List.map_cons,List.flatten_cons,List.length_append,leb_length,List.length_cons] at h2 ⊢
    omega
theorem oput_ok (F:Nat) (fs:List T_Field) (h:∀f∈fs,FieldOk f) (hn:fs.length≤1000) (hF:fs.length+9<F):octets_Put F fs=some (putAll fs,0):=by
  unfold octets_Put
  have:=iter_count (body:=fun s:List Int×Int=>octets_Put_l1 F fs s.1 s.2) (fun i=>(putAll (fs.take i),(i:Int))) fs.length (.inl (putAll fs)) (by
    intro i hi
    have hx:fs[i]? = some fs[i]:=List.getElem?_eq_getElem hi
    have hf:=h fs[i] (List.getElem_mem hi)
    have hlen:=putAll_len (fs:=fs.take i) (fun f hf=>h f (List.mem_of_mem_take hf))
    have htl:(fs.take i).length≤i:=by simp; omega
    show octets_Put_l1 F fs (putAll (fs.take i)) i=_
    unfold octets_Put_l1
    rw [if_pos (by simp [len]; omega),idx_nat,hx]
    simp only [Option.bind_some,octets_sized]
    obtain⟨s0,s1,v0,v1,v2⟩:=hf
    have hsz:(!(decide (fs[i].Size≥1)&&decide (fs[i].Size≤8)))=false:=by simp; omega
    rw [hsz]
    simp only [Bool.false_eq_true,if_false]
    have hz:((if decide (fs[i].Size<8)=true then (ishr IntKind.u64 fs[i].Value (w64 (8 * fs[i].Size))).bind fun x_16=>some (x_16 != 0) else some false))=some false:=by
      by_cases h8:fs[i].Size<8
      · rw [if_pos (by simpa using h8)]
        have:=shr_bytes (v:=fs[i].Value) fs[i].Size.toNat (by omega) v0
        rw [show ((fs[i].Size.toNat:Nat):Int)=fs[i].Size from by omega] at this
        rw [this,Int.ediv_eq_zero_of_lt v0 v2]
        rfl
      · rw [if_neg (by simpa using h8)]
    rw [hz]
    simp only [Option.bind_some,Bool.false_eq_true,if_false]
    rw [oput_in F fs[i] ⟨s0,s1,v0,v1,v2⟩ _ (by omega) (by omega)]
    simp only [Option.bind_some,octets_Put_j2]
    rw [w64_nat i (by omega),List.take_add_one,hx]
    simp only [putAll,List.map_append,List.flatten_append,Option.toList_some,List.map_cons,List.map_nil,List.flatten_cons,List.flatten_nil,List.append_nil]) (by
    show octets_Put_l1 F fs _ _=_
    unfold octets_Put_l1
    rw [if_neg (by simp [len]),List.take_length]) F 0 (by omega) (by omega)
  simp only [List.take_zero] at this
  have h0:(putAll [],((0:Nat):Int))=(([]:List Int),(0:Int)):=rfl
  rw [h0] at this
  rw [this]
  rfl
def U64 (x:Int):Prop:=0≤x∧x<18446744073709551616
theorem num_rng {l:List Int} (hb:∀x∈l,Byte x) (hl:l.length≤8):U64 (num l):=by
  have h1:=num_lt hb
  have h2:(256:Int) ^ l.length≤256 ^ 8:=by
    have h2:(256:Nat) ^ l.length≤256 ^ 8:=Nat.pow_le_pow_right (by decide) hl
    have h3:((256 ^ l.length:Nat):Int)≤((256 ^ 8:Nat):Int):=Int.ofNat_le.2 h2
    rw [Int.natCast_pow,Int.natCast_pow] at h3
    exact h3
  rw [show (256:Int) ^ 8=18446744073709551616 from rfl] at h2
  exact⟨num_nonneg hb,by omega⟩
theorem chunk_r (F:Nat) (l:List Int) (hb:∀x∈l,Byte x) (hl:l.length≤8) (hF:8<F):wirelessref02_Value F l=some (num l):=by
  unfold wirelessref02_Value
  have:=iter_count (body:=fun s:Int×Int=>wirelessref02_Value_l1 F l s.1 s.2) (fun j=>(num (l.drop (l.length - j)),((l.length - j:Nat):Int) - 1)) l.length (num l) (by
    intro j hj
    have hi:l.length - j - 1<l.length:=by omega
    have hx:l[l.length - j - 1]? = some l[l.length - j - 1]:=List.getElem?_eq_getElem hi
    have hdr:l.drop (l.length - j - 1)=l[l.length - j - 1]::l.drop (l.length - j - 1+1):=List.drop_eq_getElem_cons hi
    have hby:=hb _ (List.getElem_mem hi)
    generalize l[l.length - j - 1]=x at hx hdr hby
    have hn:=num_rng (l:=l.drop (l.length - j - 1)) (fun y hy=>hb y (List.mem_of_mem_drop hy)) (by rw [List.length_drop]; omega)
    have hn2:=num_nonneg (l:=l.drop (l.length - j)) (fun y hy=>hb y (List.mem_of_mem_drop hy))
    rw [show l.length - j - 1+1=l.length - j from by omega] at hdr
    rw [hdr,num] at hn
    obtain⟨hn0,hn1⟩:=hn
    obtain⟨hb0,hb1⟩:=hby
    show wirelessref02_Value_l1 F l (num (l.drop (l.length - j))) (((l.length - j:Nat):Int) - 1)=_
    unfold wirelessref02_Value_l1
    rw [if_pos (dt (by omega)),show ((l.length - j:Nat):Int) - 1=((l.length - j - 1:Nat):Int) from by omega,idx_nat,hx,Option.bind_some,wu64_id (x:=num (l.drop (l.length - j)) * 256) (by omega) (by omega),wu64_id (x:=x) (by omega) (by omega),wu64_id (by omega) (by omega),w64_id (by omega) (by omega)]
    rw [show l.length - (j+1)=l.length - j - 1 from by omega,hdr,num]
    congr 3
    omega) (by
    show wirelessref02_Value_l1 F l _ (((l.length - l.length:Nat):Int) - 1)=_
    unfold wirelessref02_Value_l1
    rw [if_neg (df (by omega)),Nat.sub_self,List.drop_zero]) F 0 (by omega) (by omega)
  have h0:num (l.drop (l.length - 0))=0:=by rw [Nat.sub_zero,List.drop_length]; rfl
  rw [h0] at this
  rw [len_nat,w64_id (by omega) (by omega)]
  rw [show ((l.length - 0:Nat):Int) - 1=(l.length:Int) - 1 from by omega] at this
  rw [this,Option.bind_some]
  rfl
theorem rnum8_step (F:Nat) (size n i:Int) (l:List Int) (h0:0≤n) (h1:n<18446744073709551616) (hl:l.length≤1000000) (hi:0≤i∧i<1000) (hs:i<size):wirelessref02_Num_l1 F size n l i=some (.next (n / 256,l++[n % 256],i+1)):=by
  unfold wirelessref02_Num_l1
  rw [if_pos (by simpa using hs)]
  simp only [remp,quop,tmod256 h0,tdiv256 h0,wrap_u64]
  rw [wu8_id (by omega) (by omega),app_cat (by simp; omega)]
  simp only [Option.bind_some]
  rw [wu64_id (by omega) (by omega),w64_id (by omega) (by omega)]
theorem rnum_ok (F:Nat) (k:Nat) (n:Int) (hF:9<F) (hk:k≤8) (h:U64 n):wirelessref02_Num F (k:Int) n=some (leb k n):=by
  have key:∀(m f:Nat) (n i:Int) (l:List Int),0≤n→n<18446744073709551616→l.length≤1000 - m→m≤8→0≤i→i+m=k→m<f→iter (fun s:Int×List Int×Int=>wirelessref02_Num_l1 F k s.1 s.2.1 s.2.2) f (n,l,i)=some (l++leb m n):=by
    intro m
    induction m with
    | zero=>
      intro f n i l h0 h1 hl hm hi hik hf
      cases f with
      | zero=>omega
      | succ f=>
        rw [iter_stop (o:=l) (by unfold wirelessref02_Num_l1; rw [if_neg (by simp; omega)])]
        simp [leb]
    | succ m ih=>
      intro f n i l h0 h1 hl hm hi hik hf
      cases f with
      | zero=>omega
      | succ f=>
        rw [iter_step (rnum8_step F k n i l h0 h1 (by omega) (by omega) (by omega)),ih f (n / 256) (i+1) (l++[n % 256]) (by omega) (by omega) (by simp; omega) (by omega) (by omega) (by omega) (by omega)]
        simp [leb]
  unfold wirelessref02_Num
  rw [key k F n 0 [] h.1 h.2 (by simp) hk (by omega) (by omega) (by omega),Option.bind_some]
  rfl
theorem tstep0 (F:Nat) (b:List Int) (k i:Nat) (a p:Int) (x:Int) (hc:decide ((i:Int)<(k:Int))=true) (hx:b[i]? = some x) (hw:w64 ((i:Int)+1)=((i+1:Nat):Int)) (hs:ishl .u64 (wu64 x) (w64 (8 * (i:Int)))=some p) (ho:ior .u64 a p=a+p):octets_Take_l2 F b k a i=some (.next (a+p,((i+1:Nat):Int))):=by
  unfold octets_Take_l2
  rw [if_pos hc,idx_nat,hx,Option.bind_some,hs,Option.bind_some,ho,hw]
theorem num_take (b:List Int) (i:Nat) (x:Int) (hx:b[i]? = some x) (hlen:(b.take i).length=i):num (b.take (i+1))=num (b.take i)+x * 256 ^ i:=by
  rw [List.take_add_one,hx,num_append,hlen,Int.mul_comm x]
  simp only [Option.toList_some,num,Int.mul_zero,Int.add_zero]
theorem take_lt {b:List Int} {i:Nat} (ht:∀x∈b.take i,Byte x) (hlen:(b.take i).length=i):num (b.take i)<256 ^ i:=by
  have h:=num_lt ht
  rw [hlen] at h
  exact h
theorem tstep (F:Nat) (b:List Int) (k i:Nat) (hi8:i<8) (hin:i<9223372036854775807) (hc:decide ((i:Int)<(k:Int))=true) (x:Int) (hx:b[i]? = some x) (hbx:Byte x) (ht:∀x∈b.take i,Byte x) (hlen:(b.take i).length=i):octets_Take_l2 F b k (num (b.take i)) i=some (.next (num (b.take (i+1)),((i+1:Nat):Int))):=
  (tstep0 F b k i (num (b.take i)) (x * 256 ^ i) x hc hx (w64_nat i hin) (shl_bytes hbx i hi8) (ior_add _ _ i hi8 (num_nonneg ht) (take_lt ht hlen) hbx)).trans (by rw [num_take b i x hx hlen])
theorem take_in (F:Nat) (b:List Int) (k:Nat) (hk:k≤8) (hl:k≤b.length) (hb:∀x∈b,Byte x) (hF:9<F):iter (fun s=>octets_Take_l2 F b k s.1 s.2) F (0,0)=some (num (b.take k)):=by
  have:=iter_count (body:=fun s:Int×Int=>octets_Take_l2 F b k s.1 s.2) (fun i=>(num (b.take i),(i:Int))) k (num (b.take k)) (fun i hi=>by
    have hil:i<b.length:=by omega
    exact tstep F b k i (by omega) (by omega) (decide_eq_true (by omega)) b[i] (List.getElem?_eq_getElem hil) (hb _ (List.getElem_mem hil)) (fun x hx=>hb x (List.mem_of_mem_take hx)) (by simp; omega)) (by
    show octets_Take_l2 F b k _ _=_
    unfold octets_Take_l2
    rw [if_neg (by simp)]) F 0 (by omega) (by omega)
  exact this
def valsT:List Int→List Nat→List Int
  | _,[]=>[]
  | b,k::ks=>num (b.take k)::valsT (b.drop k) ks
def sizesI (ks:List Nat):List Int:=ks.map fun (k:Nat)=>(k:Int)
def sumN:List Nat→Nat
  | []=>0
  | k::ks=>k+sumN ks
theorem sumN_append:∀a b,sumN (a++b)=sumN a+sumN b
  | [],b=>by simp [sumN]
  | x::a,b=>by simp [sumN,sumN_append a b]; omega
theorem valsT_len:∀(ks:List Nat) (b:List Int),(valsT b ks).length=ks.length
  | [],_=>rfl
  | k::ks,b=>by simp [valsT,valsT_len ks]
theorem valsT_append:∀(a c:List Nat) (b:List Int),valsT b (a++c)=valsT b a++valsT (b.drop (sumN a)) c
  | [],c,b=>by simp [valsT,sumN]
  | k::a,c,b=>by simp [valsT,sumN,valsT_append a c,List.drop_drop]
theorem sumN_le {ks:List Nat} (h:∀k∈ks,1≤k∧k≤8):sumN ks≤8 * ks.length:=by
  induction ks with
  | nil=>simp [sumN]
  | cons k ks ih=>
    have h1:=h k (by simp)
    have h2:=ih fun k hk=>h k (by simp [hk])
    simp [sumN]; omega
theorem take_sum (F:Nat) (ks:List Nat) (h:∀k∈ks,1≤k∧k≤8) (hn:ks.length≤1000) (hF:ks.length<F):iter (fun s=>octets_Take_l3 F (sizesI ks) s.1 s.2) F (0,0)=some (.inl (sumN ks:Int)):=by
  have:=iter_count (body:=fun s:Int×Int=>octets_Take_l3 F (sizesI ks) s.1 s.2) (fun i=>((sumN (ks.take i):Int),(i:Int))) ks.length (.inl (sumN ks:Int)) (by
    intro i hi
    have hx:ks[i]? = some ks[i]:=List.getElem?_eq_getElem hi
    have hk:=h ks[i] (List.getElem_mem hi)
    have hs:=sumN_le (ks:=ks.take i) fun k hk=>h k (List.mem_of_mem_take hk)
    have hlen:(ks.take i).length≤i:=by simp; omega
    show octets_Take_l3 F (sizesI ks) (sumN (ks.take i):Int) i=_
    unfold octets_Take_l3
    rw [if_pos (by simp [len,sizesI]; omega),idx_nat]
    simp only [sizesI,List.getElem?_map,hx,Option.map_some,Option.bind_some,octets_sized]
    rw [if_neg (by simp; omega),w64_nat i (by omega),w64_id (by omega) (by omega),List.take_add_one,hx,sumN_append]
    simp [sumN]) (by
    show octets_Take_l3 F (sizesI ks) _ _=_
    unfold octets_Take_l3
    rw [if_neg (by simp [len,sizesI]),List.take_length]) F 0 (by omega) (by omega)
  simpa [sumN] using this
theorem take_ok (F:Nat) (b:List Int) (ks:List Nat) (h:∀k∈ks,1≤k∧k≤8) (hn:ks.length≤1000) (hF:ks.length+9<F) (hb:∀x∈b,Byte x) (hbl:b.length≤140737488355328) (hl:sumN ks≤b.length):octets_Take F b (sizesI ks)=some (valsT b ks,b.drop (sumN ks),0):=by
  unfold octets_Take
  rw [take_sum F ks h hn (by omega)]
  simp only [Option.bind_some,octets_Take_j1]
  rw [if_neg (by simp [len]; omega)]
  have:=iter_count (body:=fun s:List Int×List Int×Int=>octets_Take_l1 F (sizesI ks) s.1 s.2.1 s.2.2) (fun i=>(b.drop (sumN (ks.take i)),valsT b (ks.take i),(i:Int))) ks.length (b.drop (sumN ks),valsT b ks) (by
    intro i hi
    have hx:ks[i]? = some ks[i]:=List.getElem?_eq_getElem hi
    have hk:=h ks[i] (List.getElem_mem hi)
    have hsum:sumN (ks.take i)+ks[i]≤sumN ks:=by
      have e1:sumN (ks.take (i+1))=sumN (ks.take i)+ks[i]:=by rw [List.take_add_one,hx,sumN_append]; simp [sumN]
      have e2:sumN ks=sumN (ks.take (i+1))+sumN (ks.drop (i+1)):=by rw [← sumN_append,List.take_append_drop]
      omega
    have hlen:(ks.take i).length≤i:=by simp; omega
    show octets_Take_l1 F (sizesI ks) (b.drop (sumN (ks.take i))) (valsT b (ks.take i)) i=_
    unfold octets_Take_l1
    rw [if_pos (by simp [len,sizesI]; omega),idx_nat]
    simp only [sizesI,List.getElem?_map,hx,Option.map_some,Option.bind_some]
    rw [take_in F (b.drop (sumN (ks.take i))) ks[i] hk.2 (by simp; omega) (fun x hx=>hb x (List.mem_of_mem_drop hx)) (by omega)]
    simp only [Option.bind_some,octets_Take_j4]
    rw [app_small (by rw [valsT_len]; simp; omega) (by decide)]
    simp only [Option.bind_some]
    have hs:=sub_nat (b.drop (sumN (ks.take i))) ks[i] (b.drop (sumN (ks.take i))).length (by simp; omega) (by omega)
    rw [len_nat,hs]
    simp only [Option.bind_some,octets_Take_j3,List.take_length,List.drop_drop]
    rw [w64_nat i (by omega),List.take_add_one,hx,sumN_append,valsT_append]
    simp [sumN,valsT]) (by
    show octets_Take_l1 F (sizesI ks) _ _ _=_
    unfold octets_Take_l1
    rw [if_neg (by simp [len,sizesI]),List.take_length]) F 0 (by omega) (by omega)
  simp only [List.take_zero,sumN,List.drop_zero,valsT] at this
  have h0:((0:Nat):Int)=0:=rfl
  rw [h0] at this
  rw [this]
  simp only [Option.bind_some,octets_Take_j2]
  rw [join_one F _ (by omega) (by simp; omega)]
  rfl
theorem take_short (F:Nat) (b:List Int) (ks:List Nat) (h:∀k∈ks,1≤k∧k≤8) (hn:ks.length≤1000) (hF:ks.length+9<F) (hl:b.length<sumN ks):octets_Take F b (sizesI ks)=some ([],[],3):=by
  unfold octets_Take
  rw [take_sum F ks h hn (by omega)]
  simp only [Option.bind_some,octets_Take_j1]
  rw [if_pos (by simp [len]; omega)]
theorem ofInt_nat (w a:Nat) (h:a<2 ^ w):(BitVec.ofInt w (a:Int)).toNat=a:=by
  rw [BitVec.toNat_ofInt]
  have:((a:Int) % ((2 ^ w:Nat):Int)).toNat=a:=by
    rw [← Int.natCast_emod,Int.toNat_natCast,Nat.mod_eq_of_lt h]
  exact this
theorem iand_mask (x:Int) (k:Nat) (m:Nat) (hm:m=2 ^ k - 1) (hk:k≤63) (h0:0≤x) (h1:x<18446744073709551616):iand .u64 x (m:Int)=x % ((m+1:Nat):Int):=by
  obtain⟨a,rfl⟩:=Int.eq_ofNat_of_zero_le h0
  have hp:(2:Nat) ^ k≤2 ^ 63:=Nat.pow_le_pow_right (by decide) hk
  have hpos:0<(2:Nat) ^ k:=Nat.pow_pos (by decide)
  have hm1:m+1=2 ^ k:=by omega
  unfold iand
  have e:(BitVec.ofInt IntKind.u64.bits (a:Int) &&& BitVec.ofInt IntKind.u64.bits (m:Int)).toNat=a % (m+1):=by
    rw [BitVec.toNat_and]
    show (BitVec.ofInt 64 (a:Int)).toNat &&& (BitVec.ofInt 64 (m:Int)).toNat=_
    rw [ofInt_nat 64 a (by omega),ofInt_nat 64 m (by omega),hm,Nat.and_two_pow_sub_one_eq_mod,show 2 ^ k - 1+1=2 ^ k by omega]
  have hlt:a % (m+1)<m+1:=Nat.mod_lt _ (by omega)
  rw [e,wrap_u64,wu64_id (by omega) (by omega)]
  omega
theorem shrp_div (x:Int) (n:Nat):shrp x n=x / 2 ^ n:=by
  unfold shrp
  exact Int.fdiv_eq_ediv_of_nonneg _ (Int.le_of_lt (Int.pow_pos (by decide)))
theorem mask22 (F:Nat):address_mask F 22=some 4194303:=by kernel_rfl
theorem mask46 (F:Nat):address_mask F 46=some 70368744177663:=by kernel_rfl
def chkA (a:T_Address):Int:=
  if a.Kind≤0∨a.Kind≥5 then 12
  else if a.Bits≥281474976710656 then 5
  else if a.Kind=1 then 0
  else if a.Kind=3 then (if a.Bits / 70368744177664≠1∨a.Bits % 70368744177664 / 16777216=0∨a.Bits % 70368744177664 / 16777216=4194303 then 1 else 0)
  else (if a.Bits / 70368744177664≠(if a.Kind=2 then 3 else 0)∨a.Bits % 70368744177664=0∨a.Bits % 70368744177664=70368744177663 then 1 else 0)
theorem j1_ite (p:Prop) [Decidable p] (b:Bool) (hb:b=true↔p):(if b=true then some (1:Int) else some 0)=some (if p then 1 else 0):=by
  by_cases h:p
  · rw [if_pos (hb.2 h),if_pos h]
  · rw [if_neg (fun e=>h (hb.1 e)),if_neg h]
theorem ucheck (F:Nat) (a:T_Address) (h:U64 a.Bits):address_Check F a=some (chkA a):=by
  obtain⟨h0,h1⟩:=h
  unfold address_Check chkA
  have e48:shrp a.Bits 48=a.Bits / 281474976710656:=shrp_div _ 48
  have e46:shrp a.Bits 46=a.Bits / 70368744177664:=shrp_div _ 46
  have e24:shrp a.Bits 24=a.Bits / 16777216:=shrp_div _ 24
  by_cases c1:a.Kind≤0∨a.Kind≥5
  · rw [if_pos (by simpa using c1),if_pos c1]
  rw [if_neg (by simpa using c1),if_neg c1,e48,e46]
  by_cases c2:a.Bits≥281474976710656
  · rw [if_pos (by simp; omega),if_pos c2]
  rw [if_neg (by simp; omega),if_neg c2]
  by_cases c3:a.Kind=1
  · rw [if_pos (by simpa using c3),if_pos c3]
  rw [if_neg (by simpa using c3),if_neg c3]
  unfold address_part address_part_j1 address_part_j2 address_Check_j1
  by_cases c4:a.Kind=3
  · have i22:iand .u64 (a.Bits / 16777216) 4194303=a.Bits / 16777216 % 4194304:=iand_mask _ 22 4194303 (by decide) (by decide) (by omega) (by omega)
    have e:a.Bits / 16777216 % 4194304=a.Bits % 70368744177664 / 16777216:=by omega
    rw [if_pos (by simpa using c4),if_pos c4,mask22,Option.bind_some,e24,i22,e,Option.bind_some,c4,show idx [(0:Int),0,3,1,0] 3=some 1 from rfl,Option.bind_some,if_pos rfl]
    simp only
    by_cases c5:a.Bits / 70368744177664≠1∨a.Bits % 70368744177664 / 16777216=0
    · rw [if_pos (by simpa using c5),if_pos (by omega)]
    · rw [if_neg (by simpa using c5),mask22,Option.bind_some]
      exact j1_ite _ _ (by simp; omega)
  · have i46:iand .u64 a.Bits 70368744177663=a.Bits % 70368744177664:=iand_mask _ 46 70368744177663 (by decide) (by decide) (by omega) (by omega)
    rw [if_neg (by simpa using c4),if_neg c4,mask46,Option.bind_some,i46,Option.bind_some]
    have c5:a.Kind=2∨a.Kind=4:=by omega
    have key:∀pre:Int,idx [(0:Int),0,3,1,0] a.Kind=some pre→(if a.Kind=2 then (3:Int) else 0)=pre→((idx [(0:Int),0,3,1,0] a.Kind).bind fun x_6=>if ((a.Bits / 70368744177664 != x_6)||((a.Bits % 70368744177664,(46:Int)).fst == 0))=true then (if (true:Bool)=true then some (1:Int) else some 0) else (address_mask F (a.Bits % 70368744177664,(46:Int)).snd).bind fun x_8=>if ((a.Bits % 70368744177664,(46:Int)).fst == x_8)=true then some 1 else some 0)=some (if a.Bits / 70368744177664≠(if a.Kind=2 then 3 else 0)∨a.Bits % 70368744177664=0∨a.Bits % 70368744177664=70368744177663 then 1 else 0):=by
      intro pre k1 k2
      rw [k1,k2,Option.bind_some]
      by_cases c6:a.Bits / 70368744177664≠pre∨a.Bits % 70368744177664=0
      · rw [if_pos (by simpa using c6),if_pos rfl,if_pos (by omega)]
      · rw [if_neg (by simpa using c6),mask46,Option.bind_some]
        exact j1_ite _ _ (by simp; omega)
    rcases c5 with c5 | c5
    · exact key 3 (by rw [c5]; rfl) (by rw [if_pos c5])
    · exact key 0 (by rw [c5]; rfl) (if_neg (by omega))
theorem rcheck (F:Nat) (a:T_Address) (h:U64 a.Bits):wirelessref08_Check F a=some (chkA a):=by
  obtain⟨h0,h1⟩:=h
  unfold wirelessref08_Check chkA
  have eq46:quop .u64 a.Bits 70368744177664=a.Bits / 70368744177664:=by
    unfold quop
    rw [Int.tdiv_eq_ediv_of_nonneg h0,wrap_u64,wu64_id (by omega) (by omega)]
  have er46:remp a.Bits 70368744177664=a.Bits % 70368744177664:=Int.tmod_eq_emod_of_nonneg h0
  have eq24:quop .u64 (a.Bits % 70368744177664) 16777216=a.Bits % 70368744177664 / 16777216:=by
    unfold quop
    rw [Int.tdiv_eq_ediv_of_nonneg (by omega),wrap_u64,wu64_id (by omega) (by omega)]
  by_cases c1:a.Kind≤0∨a.Kind≥5
  · rw [if_pos (by simp; omega),if_pos c1]
  rw [if_neg (by simp; omega),if_neg c1]
  by_cases c2:a.Bits≥281474976710656
  · rw [if_pos (by simpa using c2),if_pos c2]
  rw [if_neg (by simpa using c2),if_neg c2]
  by_cases c3:a.Kind=1
  · rw [if_pos (by simpa using c3),if_pos c3]
  rw [if_neg (by simpa using c3),if_neg c3,er46,eq24]
  unfold wirelessref08_Check_j1 wirelessref08_prefix wirelessref08_Check_j2
  rw [eq46]
  by_cases c4:a.Kind=3
  · rw [if_pos (by simpa using c4),if_pos c4,if_neg (by simp; omega),if_pos (by simpa using c4),Option.bind_some]
    exact j1_ite _ _ (by simp [or_assoc])
  · rw [if_neg (by simpa using c4),if_neg c4]
    by_cases c5:a.Kind=2
    · rw [if_pos (by simpa using c5),Option.bind_some,if_pos c5]
      exact j1_ite _ _ (by simp [or_assoc])
    · rw [if_neg (by simpa using c5),if_neg (by simpa using c4),Option.bind_some,if_neg c5]
      exact j1_ite _ _ (by simp [or_assoc])
theorem check_same (F:Nat) (b:T_Bond) (h:U64 b.Peer.Address.Bits):bonds_Check F b=wirelessref40_Check F b:=by
  unfold bonds_Check wirelessref40_Check
  rw [ucheck F _ h,rcheck F _ h]
  rfl
def okSub (s:T_Subscription):Prop:=s.Handle≠0∧0≤s.Bits∧s.Bits≤3
def SubsOk (l:List T_Subscription):Prop:=∀(i:Nat) s,l[i]? = some s→okSub s∧∀(j:Nat) p,i=j+1→l[j]? = some p→p.Handle<s.Handle
structure VB (b:T_Bond):Prop where
  adr:chkA b.Peer.Address=0
  kind:b.Peer.Address.Kind=1∨b.Peer.Address.Kind=2
  used:0≤b.Used∧b.Used≤4294967295
  few:b.Subs.length≤16
  subs:SubsOk b.Subs
theorem subs_loop (F:Nat) (b:T_Bond) (hF:2000<F) (hl:b.Subs.length≤1000):∃o,iter (fun s=>wirelessref40_Check_l1 F b s) F 0=some o∧((o = .inl ()∧SubsOk b.Subs)∨∃e,o = .inr e∧e≠0∧¬ SubsOk b.Subs):=by
  refine iter_by (body:=fun s=>wirelessref40_Check_l1 F b s) (fun s=>∃i:Nat,s=i∧i≤b.Subs.length∧∀(q:Nat) s,q<i→b.Subs[q]? = some s→okSub s∧∀(j:Nat) p,q=j+1→b.Subs[j]? = some p→p.Handle<s.Handle) _ (fun s=>(1000 - s).toNat) (fun s hs=>?_) F 0 ⟨0,rfl,by omega,fun q s h=>by omega⟩ (by simp; omega)
  obtain⟨i,rfl,hi,hall⟩:=hs
  show (∃s',wirelessref40_Check_l1 F b _=_∧_)∨∃o,wirelessref40_Check_l1 F b _=_∧_
  unfold wirelessref40_Check_l1 wirelessref40_Check_j2
  have hn:=len_nat b.Subs
  by_cases hc:i<b.Subs.length
  · have hx:b.Subs[i]? = some b.Subs[i]:=List.getElem?_eq_getElem hc
    rw [if_pos (by rw [decide_eq_true_eq]; omega),idx_nat,hx,Option.bind_some]
    by_cases h1:okSub b.Subs[i]
    · have h1':=h1
      unfold okSub at h1
      rw [if_neg (by simp; omega)]
      by_cases h0:i=0
      · subst h0
        rw [if_neg (by simp),if_neg (by decide),w64_nat 0 (by omega)]
        refine .inl ⟨_,rfl,⟨1,rfl,by omega,fun q s hq hs=>?_⟩,by omega⟩
        have:q=0:=by omega
        subst this
        rw [hx] at hs
        injection hs with hs
        subst hs
        exact⟨h1',fun j p hj=>by omega⟩
      · have hx2:b.Subs[i - 1]? = some b.Subs[i - 1]:=List.getElem?_eq_getElem (by omega)
        rw [if_pos (by simp; omega),w64_id (by omega) (by omega),show ((i:Int) - 1)=((i - 1:Nat):Int) by omega,idx_nat,hx2,Option.bind_some]
        by_cases h2:b.Subs[i].Handle≤b.Subs[i - 1].Handle
        · rw [if_pos (by simpa using h2)]
          refine .inr ⟨_,rfl,.inr ⟨_,rfl,by decide,fun hS=>?_⟩⟩
          have:=(hS i _ hx).2 (i - 1) _ (by omega) hx2
          omega
        · rw [if_neg (by simpa using h2),w64_nat i (by omega)]
          refine .inl ⟨_,rfl,⟨i+1,rfl,by omega,fun q s hq hs=>?_⟩,by omega⟩
          by_cases hqi:q<i
          · exact hall q s hqi hs
          · have:q=i:=by omega
            subst this
            rw [hx] at hs
            injection hs with hs
            subst hs
            refine ⟨h1',fun j p hj hp=>?_⟩
            rw [show j=q - 1 by omega,hx2] at hp
            injection hp with hp
            subst hp
            omega
    · rw [if_pos (by unfold okSub at h1; simp; omega)]
      exact .inr ⟨_,rfl,.inr ⟨_,rfl,by decide,fun hS=>h1 (hS i _ hx).1⟩⟩
  · rw [if_neg (by rw [decide_eq_true_eq]; omega)]
    have:i=b.Subs.length:=by omega
    refine .inr ⟨_,rfl,.inl ⟨rfl,fun q s hs=>hall q s (by have:=(List.getElem?_eq_some_iff.1 hs).1; omega) hs⟩⟩
theorem check_ok (F:Nat) (b:T_Bond) (hF:2000<F) (h:U64 b.Peer.Address.Bits):∃e,wirelessref40_Check F b=some e∧(e=0↔VB b):=by
  unfold wirelessref40_Check
  rw [rcheck F _ h,Option.bind_some]
  by_cases h1:chkA b.Peer.Address=0
  · rw [if_neg (by simpa using h1)]
    by_cases h2:b.Peer.Address.Kind=1∨b.Peer.Address.Kind=2
    · rw [if_neg (by simp; omega)]
      by_cases h3:0≤b.Used∧b.Used≤4294967295
      · rw [if_neg (by simp; omega)]
        have hn:=len_nat b.Subs
        by_cases h4:b.Subs.length≤16
        · rw [if_neg (by simp; omega)]
          obtain⟨o,k1,k2⟩:=subs_loop F b hF (by omega)
          rw [k1,Option.bind_some]
          rcases k2 with ⟨rfl,k2⟩ | ⟨e,rfl,k2,k3⟩
          · exact⟨0,rfl,fun _=>⟨h1,h2,h3,h4,k2⟩,fun _=>rfl⟩
          · exact⟨e,rfl,fun h=>absurd h k2,fun h=>absurd h.subs k3⟩
        · rw [if_pos (by simp; omega)]
          exact⟨4,rfl,fun h=>(by cases h),fun h=>absurd h.few h4⟩
      · rw [if_pos (by simp; omega)]
        exact⟨5,rfl,fun h=>(by cases h),fun h=>absurd h.used h3⟩
    · rw [if_pos (by simp; omega)]
      exact⟨12,rfl,fun h=>(by cases h),fun h=>absurd h.kind h2⟩
  · rw [if_pos (by simpa using h1)]
    exact⟨_,rfl,fun h=>absurd h h1,fun h=>absurd h.adr h1⟩
theorem copy_ok (F:Nat) (l:List T_Bond) (hF:2000<F) (hl:l.length≤1000) (hs:∀b∈l,b.Subs.length≤1000):wirelessref40_Copy F l=some l:=by
  unfold wirelessref40_Copy wirelessref40_Copy_j1
  have:=iter_count (body:=fun s:List T_Bond×Int=>wirelessref40_Copy_l1 F l s.1 s.2) (fun i=>(l.take i,(i:Int))) l.length l (fun i hi=>by
    have hx:l[i]? = some l[i]:=List.getElem?_eq_getElem hi
    have hm:=hs _ (List.getElem_mem hi)
    show wirelessref40_Copy_l1 F l _ _=_
    unfold wirelessref40_Copy_l1
    rw [if_pos (by simp [len]; omega),idx_nat,hx,Option.bind_some,app_small (by simp; omega) (by omega),Option.bind_some,List.nil_append,app_small (by simp; omega) (by omega),Option.bind_some,w64_nat i (by omega)]
    have:l.take i++[l[i]]=l.take (i+1):=by rw [List.take_add_one,hx]; rfl
    rw [this]) (by
    show wirelessref40_Copy_l1 F l _ _=_
    unfold wirelessref40_Copy_l1
    rw [if_neg (by simp [len]),List.take_length]) F 0 (by omega) (by omega)
  rw [List.take_zero,show ((0:Nat):Int)=0 from rfl] at this
  rw [this]
  rfl
theorem same_bond (F:Nat) (b:T_Bond) (hF:2000<F) (hs:b.Subs.length≤1000):wirelessref40_SameBond F b b=some true:=by
  unfold wirelessref40_SameBond wirelessref40_SameBond_j1
  rw [if_neg (by simp)]
  have:=iter_count (body:=fun s=>wirelessref40_SameBond_l1 F b b s) (fun i=>(i:Int)) b.Subs.length (.inl ()) (fun i hi=>by
    have hx:b.Subs[i]? = some b.Subs[i]:=List.getElem?_eq_getElem hi
    show wirelessref40_SameBond_l1 F b b _=_
    unfold wirelessref40_SameBond_l1 wirelessref40_SameBond_j2
    rw [if_pos (by simp [len]; omega),idx_nat,hx,Option.bind_some,Option.bind_some,if_neg (by simp),w64_nat i (by omega)]) (by
    show wirelessref40_SameBond_l1 F b b _=_
    unfold wirelessref40_SameBond_l1
    rw [if_neg (by simp [len])]) F 0 (by omega) (by omega)
  rw [show ((0:Nat):Int)=0 from rfl] at this
  rw [this]
  rfl
structure RB (b:T_Bond):Prop where
  bits:U64 b.Peer.Address.Bits
  irk:U64 b.Peer.IRK
  ltk:U64 b.LTK
  mark:U64 b.Mark
  hash:U64 b.Hash
  hand:∀s∈b.Subs,0≤s.Handle∧s.Handle<65536
theorem chkA_lt {a:T_Address} (h:chkA a=0):1≤a.Kind∧a.Kind≤4∧a.Bits<281474976710656:=by
  unfold chkA at h
  by_cases c1:a.Kind≤0∨a.Kind≥5
  · rw [if_pos c1] at h; cases h
  · rw [if_neg c1] at h
    by_cases c2:a.Bits≥281474976710656
    · rw [if_pos c2] at h; cases h
    · omega
def flagsOf (b:T_Bond):Int:=(if b.Strong=true then 1 else 0)+(if b.Aware=true then 2 else 0)
def subB (s:T_Subscription):List Int:=leb 2 s.Handle++leb 1 s.Bits
def encB (b:T_Bond):List Int:=
  leb 1 b.Peer.Address.Kind++leb 6 b.Peer.Address.Bits++(leb 8 b.Peer.IRK++leb 8 b.LTK++leb 8 b.Mark++leb 1 (flagsOf b)++leb 8 b.Hash++leb 4 b.Used++leb 1 (b.Subs.length:Int)++b.Subs.flatMap subB)
theorem putAll_append (a b:List T_Field):putAll (a++b)=putAll a++putAll b:=by simp [putAll]
theorem flags_ok (F:Nat) (b:T_Bond):bonds_flags F b=some (flagsOf b):=by
  unfold bonds_flags bonds_flags_j1 bonds_flags_j2 flagsOf
  cases b.Strong <;> cases b.Aware <;> rfl
theorem flags_rng (b:T_Bond):0≤flagsOf b∧flagsOf b≤3:=by
  unfold flagsOf
  split <;> split <;> omega
theorem uaddr (F:Nat) (a:T_Address) (hF:100<F) (h:U64 a.Bits) (h0:chkA a=0):address_Encode F a=some (leb 1 a.Kind++leb 6 a.Bits,0):=by
  have hc:=chkA_lt h0
  have hb:=h.1
  unfold address_Encode
  rw [ucheck F a h,h0,Option.bind_some,if_neg (by decide),wu64_id (x:=a.Kind) (by omega) (by omega)]
  rw [oput_ok F [T_Field.mk 1 a.Kind,T_Field.mk 6 a.Bits] (fun f hf=>by
    simp only [List.mem_cons,List.not_mem_nil,or_false] at hf
    rcases hf with rfl | rfl
    · exact⟨by simp,by simp,by simp only; omega,by simp only; omega,by show a.Kind<256 ^ 1; omega⟩
    · exact⟨by simp,by simp,by simp only; omega,by simp only; omega,by show a.Bits<256 ^ 6; omega⟩) (by simp) (by simp; omega),Option.bind_some]
  simp [putAll]
theorem leb_one (n:Int):leb 1 n=[n % 256]:=rfl
theorem raddr (F:Nat) (a:T_Address) (hF:100<F) (h:U64 a.Bits) (h0:chkA a=0):wirelessref08_Encode F a=some (leb 1 a.Kind++leb 6 a.Bits,0):=by
  unfold wirelessref08_Encode wirelessref08_Encode_j1
  rw [rcheck F a h,h0,Option.bind_some,if_neg (by decide),show (6:Int)=((6:Nat):Int) from rfl,rnum_ok F 6 a.Bits (by omega) (by omega) h,Option.bind_some,app_cat (by simp [leb_length]),Option.bind_some]
  rfl
def fld7 (b:T_Bond):List T_Field:=[T_Field.mk 8 b.Peer.IRK,T_Field.mk 8 b.LTK,T_Field.mk 8 b.Mark,T_Field.mk 1 (flagsOf b),T_Field.mk 8 b.Hash,T_Field.mk 4 b.Used,T_Field.mk 1 (b.Subs.length:Int)]
def subF (s:T_Subscription):List T_Field:=[T_Field.mk 2 s.Handle,T_Field.mk 1 s.Bits]
theorem subF_len:∀(l:List T_Subscription),(l.flatMap subF).length=2 * l.length
  | []=>rfl
  | s::l=>by simp [subF,subF_len l]; omega
theorem subF_put:∀(l:List T_Subscription),putAll (l.flatMap subF)=l.flatMap subB
  | []=>rfl
  | s::l=>by
    rw [List.flatMap_cons,List.flatMap_cons,putAll_append,subF_put l]
    simp [putAll,subF,subB]
theorem okSub_mem {l:List T_Subscription} (h:SubsOk l) {s:T_Subscription} (hs:s∈l):okSub s:=by
  obtain⟨i,hi⟩:=List.mem_iff_getElem?.1 hs
  exact (h i s hi).1
theorem enc_u (F:Nat) (b:T_Bond) (hF:2000<F) (hv:VB b) (hr:RB b):bonds_Encode F b=some (encB b,0):=by
  obtain⟨e,k1,k2⟩:=check_ok F b hF hr.bits
  have he:=k2.2 hv
  subst he
  obtain⟨f0,f1⟩:=flags_rng b
  obtain⟨u0,u1⟩:=hv.used
  have hfew:=hv.few
  have hln:=len_nat b.Subs
  unfold bonds_Encode bonds_Encode_1
  rw [check_same F b hr.bits,k1,Option.bind_some,if_neg (by decide),uaddr F _ (by omega) hr.bits hv.adr]
  simp only [Option.bind_some]
  rw [flags_ok F b,Option.bind_some,wu64_id (x:=b.Used) u0 (by omega),wu64_id (x:=len b.Subs) (by omega) (by omega),hln]
  unfold bonds_Encode_j1 bonds_Encode_j2
  have hloop:=iter_count (body:=fun s:List T_Field×Int=>bonds_Encode_l1 F b s.1 s.2) (fun i=>(fld7 b++(b.Subs.take i).flatMap subF,(i:Int))) b.Subs.length (fld7 b++b.Subs.flatMap subF) (fun i hi=>by
    have hx:b.Subs[i]? = some b.Subs[i]:=List.getElem?_eq_getElem hi
    have hok:=okSub_mem hv.subs (List.getElem_mem hi)
    have hh:=hr.hand _ (List.getElem_mem hi)
    unfold okSub at hok
    have hlen:(fld7 b++(b.Subs.take i).flatMap subF).length≤100:=by
      rw [List.length_append,subF_len,List.length_take]
      simp [fld7]
      omega
    show bonds_Encode_l1 F b _ _=_
    unfold bonds_Encode_l1 bonds_Encode_1
    rw [if_pos (by rw [decide_eq_true_eq]; omega),idx_nat,hx]
    simp only [Option.bind_some]
    rw [wu64_id (x:=b.Subs[i].Handle) (by omega) (by omega),wu64_id (x:=b.Subs[i].Bits) (by omega) (by omega),app_small (by simp at hlen ⊢; omega) (by omega),Option.bind_some,w64_nat i (by omega)]
    have:(b.Subs.take (i+1)).flatMap subF=(b.Subs.take i).flatMap subF++subF b.Subs[i]:=by rw [List.take_add_one,hx,Option.toList_some,List.flatMap_append,List.flatMap_singleton]
    rw [this,List.append_assoc]
    rfl) (by
    show bonds_Encode_l1 F b _ _=_
    unfold bonds_Encode_l1
    rw [if_neg (by rw [decide_eq_true_eq]; omega),List.take_length]) F 0 (by omega) (by omega)
  rw [List.take_zero,show ((0:Nat):Int)=0 from rfl] at hloop
  simp only [List.flatMap_nil,List.append_nil] at hloop
  rw [show [T_Field.mk 8 b.Peer.IRK,T_Field.mk 8 b.LTK,T_Field.mk 8 b.Mark,T_Field.mk 1 (flagsOf b),T_Field.mk 8 b.Hash,T_Field.mk 4 b.Used,T_Field.mk 1 (b.Subs.length:Int)]=fld7 b from rfl]
  rw [hloop,Option.bind_some]
  have hput:=oput_ok F (fld7 b++b.Subs.flatMap subF) (fun f hf=>by
    rcases List.mem_append.1 hf with hf | hf
    · obtain⟨i0,i1⟩:=hr.irk
      obtain⟨l0,l1⟩:=hr.ltk
      obtain⟨m0,m1⟩:=hr.mark
      obtain⟨h0,h1⟩:=hr.hash
      simp only [fld7,List.mem_cons,List.not_mem_nil,or_false] at hf
      rcases hf with rfl | rfl | rfl | rfl | rfl | rfl | rfl
      · exact⟨by simp,by simp,i0,i1,i1⟩
      · exact⟨by simp,by simp,l0,l1,l1⟩
      · exact⟨by simp,by simp,m0,m1,m1⟩
      · exact⟨by simp,by simp,f0,by simp only; omega,by show flagsOf b<256 ^ 1; omega⟩
      · exact⟨by simp,by simp,h0,h1,h1⟩
      · exact⟨by simp,by simp,u0,by simp only; omega,by show b.Used<256 ^ 4; omega⟩
      · exact⟨by simp,by simp,by simp,by simp only; omega,by show (b.Subs.length:Int)<256 ^ 1; omega⟩
    · obtain⟨s,hs,hf⟩:=List.mem_flatMap.1 hf
      have hok:=okSub_mem hv.subs hs
      have hh:=hr.hand _ hs
      unfold okSub at hok
      simp only [subF,List.mem_cons,List.not_mem_nil,or_false] at hf
      rcases hf with rfl | rfl
      · exact⟨by simp,by simp,hh.1,by simp only; omega,by show s.Handle<256 ^ 2; omega⟩
      · exact⟨by simp,by simp,hok.2.1,by simp only; omega,by show s.Bits<256 ^ 1; omega⟩) (by rw [List.length_append,subF_len]; simp [fld7]; omega) (by rw [List.length_append,subF_len]; simp [fld7]; omega)
  rw [hput,Option.bind_some,if_neg (by simp)]
  have hpl:(putAll (fld7 b++b.Subs.flatMap subF)).length≤1000:=by
    rw [putAll_append,subF_put]
    have:∀(l:List T_Subscription),(l.flatMap subB).length=3 * l.length:=by
      intro l
      induction l with
      | nil=>rfl
      | cons s l ih=>simp [subB,leb_length,ih]; omega
    rw [List.length_append,this]
    simp [putAll,fld7,leb_length]
    omega
  rw [join_two F _ _ (by omega) (by simp [leb_length]; omega),Option.bind_some]
  have:putAll (fld7 b++b.Subs.flatMap subF)=leb 8 b.Peer.IRK++leb 8 b.LTK++leb 8 b.Mark++leb 1 (flagsOf b)++leb 8 b.Hash++leb 4 b.Used++leb 1 (b.Subs.length:Int)++b.Subs.flatMap subB:=by
    rw [putAll_append,subF_put]
    simp [putAll,fld7,List.append_assoc]
  rw [this]
  rfl
theorem subB_len:∀(l:List T_Subscription),(l.flatMap subB).length=3 * l.length
  | []=>rfl
  | s::l=>by simp [subB,leb_length,subB_len l]; omega
theorem enc_r (F:Nat) (b:T_Bond) (hF:2000<F) (hv:VB b) (hr:RB b):wirelessref40_Encode F b=some (encB b,0):=by
  obtain⟨e,k1,k2⟩:=check_ok F b hF hr.bits
  have he:=k2.2 hv
  subst he
  obtain⟨u0,u1⟩:=hv.used
  have hfew:=hv.few
  have hln:=len_nat b.Subs
  have n8:∀v,U64 v→wirelessref02_Num F 8 v=some (leb 8 v):=fun v h=>rnum_ok F 8 v (by omega) (by omega) h
  unfold wirelessref40_Encode
  rw [k1,Option.bind_some,if_neg (by decide),raddr F _ (by omega) hr.bits hv.adr,Option.bind_some,n8 _ hr.irk,Option.bind_some,app_cat (by simp [leb_length]),Option.bind_some,n8 _ hr.ltk,Option.bind_some,app_cat (by simp [leb_length]),Option.bind_some,n8 _ hr.mark,Option.bind_some,app_cat (by simp [leb_length]),Option.bind_some]
  generalize hpre:leb 1 b.Peer.Address.Kind++leb 6 b.Peer.Address.Bits++leb 8 b.Peer.IRK++leb 8 b.LTK++leb 8 b.Mark=pre
  have hprel:pre.length=31:=by rw [← hpre]; simp [leb_length]
  have key:wirelessref40_Encode_j3 F b pre (flagsOf b)=some (pre++leb 1 (flagsOf b)++leb 8 b.Hash++leb 4 b.Used++leb 1 (b.Subs.length:Int)++b.Subs.flatMap subB,0):=by
    obtain⟨f0,f1⟩:=flags_rng b
    unfold wirelessref40_Encode_j3
    have hfl : [flagsOf b]=leb 1 (flagsOf b):=by rw [leb_one,Int.emod_eq_of_lt f0 (by omega)]
    rw [hfl,app_cat (by simp [leb_length]; omega),Option.bind_some,n8 _ hr.hash,Option.bind_some,app_cat (by simp [leb_length]; omega),Option.bind_some,wu64_id (x:=b.Used) u0 (by omega),show (4:Int)=((4:Nat):Int) from rfl,rnum_ok F 4 b.Used (by omega) (by omega) ⟨u0,by omega⟩,Option.bind_some,app_cat (by simp [leb_length]; omega),Option.bind_some]
    unfold wirelessref40_Encode_j4 wirelessref40_Encode_j5
    have hnl : [wu8 (len b.Subs)]=leb 1 (b.Subs.length:Int):=by rw [hln]; rfl
    rw [hnl,app_cat (by simp [leb_length]; omega),Option.bind_some]
    generalize hp2:pre++leb 1 (flagsOf b)++leb 8 b.Hash++leb 4 b.Used++leb 1 (b.Subs.length:Int)=p2
    have hp2l:p2.length=45:=by rw [← hp2]; simp [leb_length,hprel]
    have hloop:=iter_count (body:=fun s:List Int×Int=>wirelessref40_Encode_l1 F b s.1 s.2) (fun i=>(p2++(b.Subs.take i).flatMap subB,(i:Int))) b.Subs.length (p2++b.Subs.flatMap subB) (fun i hi=>by
      have hx:b.Subs[i]? = some b.Subs[i]:=List.getElem?_eq_getElem hi
      have hok:=okSub_mem hv.subs (List.getElem_mem hi)
      have hh:=hr.hand _ (List.getElem_mem hi)
      unfold okSub at hok
      have hlen:(p2++(b.Subs.take i).flatMap subB).length≤200:=by
        rw [List.length_append,subB_len,List.length_take]
        omega
      show wirelessref40_Encode_l1 F b _ _=_
      unfold wirelessref40_Encode_l1
      rw [if_pos (by rw [decide_eq_true_eq]; omega),idx_nat,hx]
      simp only [Option.bind_some]
      rw [wu64_id (x:=b.Subs[i].Handle) (by omega) (by omega),show (2:Int)=((2:Nat):Int) from rfl,rnum_ok F 2 _ (by omega) (by omega) ⟨hh.1,by omega⟩,Option.bind_some,app_cat (by rw [leb_length]; omega),Option.bind_some,app_cat (by rw [List.length_append,leb_length]; show _+1≤_; omega),Option.bind_some,w64_nat i (by omega)]
      have:(b.Subs.take (i+1)).flatMap subB=(b.Subs.take i).flatMap subB++subB b.Subs[i]:=by rw [List.take_add_one,hx,Option.toList_some,List.flatMap_append,List.flatMap_singleton]
      rw [this]
      simp only [subB,leb_one,List.append_assoc]
      rfl) (by
      show wirelessref40_Encode_l1 F b _ _=_
      unfold wirelessref40_Encode_l1
      rw [if_neg (by rw [decide_eq_true_eq]; omega),List.take_length]) F 0 (by omega) (by omega)
    rw [List.take_zero,show ((0:Nat):Int)=0 from rfl] at hloop
    simp only [List.flatMap_nil,List.append_nil] at hloop
    rw [hloop]
    rfl
  have hj:wirelessref40_Encode_j1 F b pre=wirelessref40_Encode_j3 F b pre (flagsOf b):=by
    unfold wirelessref40_Encode_j1 wirelessref40_Encode_j2 flagsOf
    cases b.Strong <;> cases b.Aware <;> rfl
  rw [hj,key,← hpre]
  unfold encB
  simp only [List.append_assoc]
theorem enc_both (F:Nat) (b:T_Bond) (hF:2000<F) (hr:RB b):∃r,bonds_Encode F b=some r∧wirelessref40_Encode F b=some r:=by
  obtain⟨e,k1,k2⟩:=check_ok F b hF hr.bits
  by_cases h:e=0
  · subst h
    have hv:=k2.1 rfl
    exact⟨_,enc_u F b hF hv hr,enc_r F b hF hv hr⟩
  · refine ⟨([],e),?_,?_⟩
    · unfold bonds_Encode
      rw [check_same F b hr.bits,k1,Option.bind_some,if_pos (by simpa using h)]
    · unfold wirelessref40_Encode
      rw [k1,Option.bind_some,if_pos (by simpa using h)]
theorem take_one_num {s:List Int} {i:Nat} {x:Int} (h:s[i]? = some x):num ((s.drop i).take 1)=x:=by
  have hi:=(List.getElem?_eq_some_iff.1 h).1
  have:s.drop i=x::s.drop (i+1):=by
    rw [List.drop_eq_getElem_cons hi]
    congr 1
    exact (List.getElem?_eq_some_iff.1 h).2
  rw [this]
  simp [num]
theorem bytes_u64 {s:List Int} (hb:∀x∈s,Byte x) (i k:Nat) (hk:k≤8):U64 (num ((s.drop i).take k)):=by
  have:=num_rng (l:=(s.drop i).take k) (fun x hx=>hb x (List.mem_of_mem_drop (List.mem_of_mem_take hx))) (by rw [List.length_take]; omega)
  exact this
def decA (s:List Int) (x0:Int):T_Address:=T_Address.mk x0 (num ((s.drop 1).take 6))
theorem decA_u (F:Nat) (s:List Int) (x0:Int) (hF:2000<F) (hb:∀x∈s,Byte x) (hl:45≤s.length) (hl2:s.length≤5000) (h0:s[0]? = some x0):address_Decode F s=some (if chkA (decA s x0)=0 then (decA s x0,s.drop 7,0) else (T_Address.mk 0 0,[],chkA (decA s x0))):=by
  have hx:=hb x0 (List.mem_of_getElem? h0)
  unfold Byte at hx
  have ht:=take_ok F s [1,6] (by simp) (by simp) (by simp; omega) hb (by omega) (by simp [sumN]; omega)
  rw [show sizesI [1,6]=[1,6] from rfl] at ht
  have e0:num (s.take 1)=x0:=by
    have:=take_one_num (i:=0) h0
    rwa [List.drop_zero] at this
  unfold address_Decode
  rw [ht,Option.bind_some,if_neg (by simp)]
  simp only [valsT,sumN,e0]
  rw [show idx [x0,num (List.take 6 (List.drop 1 s))] 0=some x0 from rfl,show idx [x0,num (List.take 6 (List.drop 1 s))] 1=some (num (List.take 6 (List.drop 1 s))) from rfl,Option.bind_some,Option.bind_some,w64_id (x:=x0) (by omega) (by omega)]
  unfold address_Decode_j1
  rw [ucheck F _ (bytes_u64 hb 1 6 (by omega)),Option.bind_some]
  rw [show T_Address.mk x0 (num (List.take 6 (List.drop 1 s)))=decA s x0 from rfl]
  by_cases h:chkA (decA s x0)=0
  · rw [if_neg (fun e=>(bne_iff_ne.1 e) h),if_pos h]
  · rw [if_pos (bne_iff_ne.2 h),if_neg h]
theorem decA_r (F:Nat) (s:List Int) (x0:Int) (hF:2000<F) (hb:∀x∈s,Byte x) (hl:45≤s.length) (h0:s[0]? = some x0):∃q,wirelessref08_Decode F (s.take 7)=some (if chkA (decA s x0)=0 then (decA s x0,q,0) else (T_Address.mk 0 0,[],chkA (decA s x0))):=by
  have hx:=hb x0 (List.mem_of_getElem? h0)
  unfold Byte at hx
  have h7:(s.take 7).length=7:=by rw [List.length_take]; omega
  have h7n:=len_nat (s.take 7)
  have e1:idx (s.take 7) 0=some x0:=by
    have:(s.take 7)[0]? = some x0:=by rw [List.getElem?_take,if_pos (by omega)]; exact h0
    exact this
  have e2:sub (s.take 7) 1 7=some ((s.drop 1).take 6):=by
    have:=sub_nat (s.take 7) 1 7 (by omega) (by omega)
    rw [List.take_take,List.drop_take] at this
    exact this
  unfold wirelessref08_Decode
  rw [if_neg (by rw [decide_eq_true_eq]; omega),e1,Option.bind_some,e2,Option.bind_some,chunk_r F _ (fun x hx=>hb x (List.mem_of_mem_drop (List.mem_of_mem_take hx))) (by rw [List.length_take]; omega) (by omega),Option.bind_some,w64_id (x:=x0) (by omega) (by omega)]
  unfold wirelessref08_Decode_j1 wirelessref08_Decode_j2
  rw [rcheck F _ (bytes_u64 hb 1 6 (by omega)),Option.bind_some]
  rw [show T_Address.mk x0 (num (List.take 6 (List.drop 1 s)))=decA s x0 from rfl]
  by_cases h:chkA (decA s x0)=0
  · have h3:sub (s.take 7) 7 (len (s.take 7))=some []:=by
      have:=sub_nat (s.take 7) 7 7 (by omega) (by omega)
      rw [h7n,h7]
      rw [show (s.take 7).take 7=s.take 7 by rw [List.take_take]; rfl,List.drop_of_length_le (by omega)] at this
      exact this
    refine ⟨[],?_⟩
    rw [if_neg (fun e=>(bne_iff_ne.1 e) h),if_pos h,h3,Option.bind_some,app_cat (by simp),Option.bind_some]
    rfl
  · refine ⟨[],?_⟩
    rw [if_pos (bne_iff_ne.2 h),if_neg h]
def subAt (s:List Int) (i:Nat):T_Subscription:=T_Subscription.mk (wu16 (num ((s.drop (45+3 * i)).take 2))) (w64 (num ((s.drop (45+3 * i+2)).take 1)))
def subsOf (s:List Int) (n:Nat):List T_Subscription:=(List.range n).map (subAt s)
theorem subsOf_len (s:List Int) (n:Nat):(subsOf s n).length=n:=by simp [subsOf]
theorem subsOf_succ (s:List Int) (n:Nat):subsOf s (n+1)=subsOf s n++[subAt s n]:=by simp [subsOf,List.range_succ]
theorem loop_u (F:Nat) (s:List Int) (c:Nat) (hF:2000<F) (hc:c≤255) (hb:∀x∈s,Byte x) (hl:s.length=45+3 * c):iter (fun q:List Int×List T_Subscription×Int=>bonds_Decode_l1 F (c:Int) q.1 q.2.1 q.2.2) F (s.drop 45,[],0)=some (subsOf s c):=by
  have:=iter_count (body:=fun q:List Int×List T_Subscription×Int=>bonds_Decode_l1 F (c:Int) q.1 q.2.1 q.2.2) (fun i=>(s.drop (45+3 * i),subsOf s i,(i:Int))) c (subsOf s c) (fun i hi=>by
    show bonds_Decode_l1 F (c:Int) (s.drop (45+3 * i)) (subsOf s i) (i:Int)=_
    unfold bonds_Decode_l1
    have ht:=take_ok F (s.drop (45+3 * i)) [2,1] (by simp) (by simp) (by simp; omega) (fun x hx=>hb x (List.mem_of_mem_drop hx)) (by rw [List.length_drop]; omega) (by simp [sumN]; omega)
    rw [show sizesI [2,1]=[2,1] from rfl] at ht
    rw [if_pos (by rw [decide_eq_true_eq]; omega),ht,Option.bind_some]
    simp only [valsT,sumN,List.drop_drop]
    obtain⟨p1,hp1⟩:∃p,p=num (List.take 2 (List.drop (45+3 * i) s)):=⟨_,rfl⟩
    obtain⟨p2,hp2⟩:∃p,p=num (List.take 1 (List.drop (45+3 * i+2) s)):=⟨_,rfl⟩
    have hsub:subAt s i=T_Subscription.mk (wu16 p1) (w64 p2):=by unfold subAt; rw [hp1,hp2]
    rw [← hp1,← hp2,show idx [p1,p2] 0=some p1 from rfl,show idx [p1,p2] 1=some p2 from rfl,Option.bind_some,Option.bind_some,app_small (by rw [subsOf_len]; simp; omega) (by omega),Option.bind_some,wu64_id (by omega) (by omega),subsOf_succ,hsub]
    rfl) (by
    show bonds_Decode_l1 F (c:Int) _ _ (c:Int)=_
    unfold bonds_Decode_l1
    rw [if_neg (by rw [decide_eq_true_eq]; omega)]) F 0 (by omega) (by omega)
  exact this
theorem loop_r (F:Nat) (s:List Int) (c:Nat) (hF:2000<F) (hc:c≤255) (hb:∀x∈s,Byte x) (hl:s.length=45+3 * c):iter (fun q:List T_Subscription×Int=>wirelessref40_Decode_l1 F s q.1 q.2) F ([],45)=some (subsOf s c):=by
  have hn:=len_nat s
  have:=iter_count (body:=fun q:List T_Subscription×Int=>wirelessref40_Decode_l1 F s q.1 q.2) (fun i=>(subsOf s i,((45+3 * i:Nat):Int))) c (subsOf s c) (fun i hi=>by
    show wirelessref40_Decode_l1 F s (subsOf s i) ((45+3 * i:Nat):Int)=_
    unfold wirelessref40_Decode_l1
    have hx:s[45+3 * i+2]? = some s[45+3 * i+2]:=List.getElem?_eq_getElem (by omega)
    have h1:=take_one_num hx
    generalize s[45+3 * i+2]=v at hx h1
    have hs:=sub_nat s (45+3 * i) (45+3 * i+2) (by omega) (by omega)
    rw [List.drop_take,show 45+3 * i+2 - (45+3 * i)=2 by omega] at hs
    rw [if_pos (by rw [decide_eq_true_eq]; omega),w64_id (x:=((45+3 * i:Nat):Int)+2) (by omega) (by omega),show ((45+3 * i:Nat):Int)+2=((45+3 * i+2:Nat):Int) by omega,idx_nat,hx,Option.bind_some,hs,Option.bind_some,chunk_r F _ (fun x hx=>hb x (List.mem_of_mem_drop (List.mem_of_mem_take hx))) (by rw [List.length_take]; omega) (by omega),Option.bind_some,app_small (by rw [subsOf_len]; simp; omega) (by omega),Option.bind_some,w64_id (x:=((45+3 * i:Nat):Int)+3) (by omega) (by omega),show ((45+3 * i:Nat):Int)+3=((45+3 * (i+1):Nat):Int) by omega,subsOf_succ]
    unfold subAt
    rw [h1]) (by
    show wirelessref40_Decode_l1 F s _ ((45+3 * c:Nat):Int)=_
    unfold wirelessref40_Decode_l1
    rw [if_neg (by rw [decide_eq_true_eq]; omega)]) F 0 (by omega) (by omega)
  exact this
theorem dec_both (F:Nat) (s:List Int) (hF:2000<F) (hb:∀x∈s,Byte x) (hl2:s.length≤4096):∃r,bonds_Decode F s=some r∧wirelessref40_Decode F s=some r∧r.1.Subs.length≤255:=by
  have hn:=len_nat s
  unfold bonds_Decode wirelessref40_Decode
  by_cases h1:s.length<45
  · rw [if_pos (by rw [decide_eq_true_eq]; omega),Option.bind_some,Option.bind_some,if_pos rfl,if_pos rfl]
    exact⟨_,rfl,rfl,by simp⟩
  have h44:s[44]? = some s[44]:=List.getElem?_eq_getElem (by omega)
  have hb44:=hb _ (List.getElem_mem (show 44<s.length by omega))
  have n44:=take_one_num h44
  generalize s[44]=c at h44 hb44 n44
  obtain⟨b0,b1⟩:=hb44
  have e44:idx s 44=some c:=h44
  have ew:w64 (45+3 * c)=45+3 * c:=w64_id (by omega) (by omega)
  have ew3:w64 (3 * w64 c)=3 * c:=by rw [w64_id (x:=c) (by omega) (by omega),w64_id (x:=3 * c) (by omega) (by omega)]
  rw [if_neg (by rw [decide_eq_true_eq]; omega),e44]
  simp only [Option.bind_some,ew,ew3]
  by_cases h2:(s.length:Int)<45+3 * c
  · rw [if_pos (by rw [decide_eq_true_eq]; omega),if_pos (by rw [decide_eq_true_eq]; omega)]
    exact⟨_,rfl,rfl,by simp⟩
  rw [if_neg (by rw [decide_eq_true_eq]; omega),if_neg (by rw [decide_eq_true_eq]; omega)]
  have h00:s[0]? = some s[0]:=List.getElem?_eq_getElem (by omega)
  generalize s[0]=x0 at h00
  have hsub7:=sub_nat s 7 s.length (by omega) (by omega)
  rw [List.take_length] at hsub7
  have ht:=take_ok F (s.drop 7) [8,8,8,1,8,4,1] (by simp) (by simp) (by simp; omega) (fun x hx=>hb x (List.mem_of_mem_drop hx)) (by rw [List.length_drop]; omega) (by simp [sumN]; omega)
  rw [show sizesI [8,8,8,1,8,4,1]=[8,8,8,1,8,4,1] from rfl] at ht
  have hs7:sub s 7 (len s)=some (s.drop 7):=hsub7
  have h31:s[31]? = some s[31]:=List.getElem?_eq_getElem (by omega)
  have n31:=take_one_num h31
  generalize s[31]=d at h31 n31
  have e31:idx s 31=some d:=h31
  have hvals:∀(a0 a1 a2 a3 a4 a5 a6:Int),idx [a0,a1,a2,a3,a4,a5,a6] 3=some a3:=fun _ _ _ _ _ _ _=>rfl
  have hd45:len (s.drop (7+(8+(8+(8+(1+(8+(4+(1+0)))))))))=s.length - 45:=by rw [len_nat,List.length_drop]; omega
  rw [decA_u F s x0 hF hb (by omega) (by omega) h00,hs7,e31]
  simp only [Option.bind_some,ht,valsT,sumN,List.drop_drop,hvals,hd45,show 7+8+8+8=31 from rfl,n31]
  by_cases h3:(s.length:Int) > 45+3 * c
  · rw [if_pos (show decide ((s.length:Int) - 45 > 3 * c)=true by rw [decide_eq_true_eq]; omega),if_pos (show decide (len s > 45+3 * c)=true by rw [decide_eq_true_eq]; omega)]
    exact⟨_,rfl,rfl,by simp⟩
  rw [if_neg (show ¬ decide ((s.length:Int) - 45 > 3 * c)=true by rw [decide_eq_true_eq]; omega),if_neg (show ¬ decide (len s > 45+3 * c)=true by rw [decide_eq_true_eq]; omega)]
  simp only [Option.bind_some]
  by_cases h4:d > 3
  · rw [if_pos (show decide (d > 3)=true by simpa using h4),if_pos (show decide (d > 3)=true by simpa using h4)]
    exact⟨_,rfl,rfl,by simp⟩
  rw [if_neg (show ¬ decide (d > 3)=true by simpa using h4),if_neg (show ¬ decide (d > 3)=true by simpa using h4)]
  obtain⟨q,hq⟩:=decA_r F s x0 hF hb (by omega) h00
  have hsub0:=sub_nat s 0 7 (by omega) (by omega)
  rw [List.drop_zero] at hsub0
  have hs0:sub s 0 7=some (s.take 7):=hsub0
  rw [hs0,Option.bind_some,hq,Option.bind_some]
  by_cases h5:chkA (decA s x0)=0
  · rw [if_pos h5,if_pos h5,if_neg (by simp),if_neg (by simp)]
    have hd:=fun (i k:Nat) (h:i+k≤s.length)=>sub_nat s i (i+k) (by omega) h
    have hv:∀(i k:Nat),k≤8→i+k≤s.length→wirelessref02_Value F ((s.take (i+k)).drop i)=some (num ((s.drop i).take k)):=fun i k hk h=>by
      rw [List.drop_take,show i+k - i=k by omega]
      exact chunk_r F _ (fun x hx=>hb x (List.mem_of_mem_drop (List.mem_of_mem_take hx))) (by rw [List.length_take]; omega) (by omega)
    have t1:sub s 7 15=some ((s.take 15).drop 7):=hd 7 8 (by omega)
    have t2:sub s 15 23=some ((s.take 23).drop 15):=hd 15 8 (by omega)
    have t3:sub s 23 31=some ((s.take 31).drop 23):=hd 23 8 (by omega)
    have t4:sub s 32 40=some ((s.take 40).drop 32):=hd 32 8 (by omega)
    have t5:sub s 40 44=some ((s.take 44).drop 40):=hd 40 4 (by omega)
    have v1:wirelessref02_Value F ((s.take 15).drop 7)=some (num ((s.drop 7).take 8)):=hv 7 8 (by omega) (by omega)
    have v2:wirelessref02_Value F ((s.take 23).drop 15)=some (num ((s.drop 15).take 8)):=hv 15 8 (by omega) (by omega)
    have v3:wirelessref02_Value F ((s.take 31).drop 23)=some (num ((s.drop 23).take 8)):=hv 23 8 (by omega) (by omega)
    have v4:wirelessref02_Value F ((s.take 40).drop 32)=some (num ((s.drop 32).take 8)):=hv 32 8 (by omega) (by omega)
    have v5:wirelessref02_Value F ((s.take 44).drop 40)=some (num ((s.drop 40).take 4)):=hv 40 4 (by omega) (by omega)
    rw [t1,Option.bind_some,t2,Option.bind_some,t3,Option.bind_some,t4,Option.bind_some,t5,Option.bind_some,v1,Option.bind_some,v2,Option.bind_some,v3,Option.bind_some,v4,Option.bind_some,v5,Option.bind_some]
    have i0:∀(a0 a1 a2 a3 a4 a5 a6:Int),idx [a0,a1,a2,a3,a4,a5,a6] 0=some a0:=fun _ _ _ _ _ _ _=>rfl
    have i1:∀(a0 a1 a2 a3 a4 a5 a6:Int),idx [a0,a1,a2,a3,a4,a5,a6] 1=some a1:=fun _ _ _ _ _ _ _=>rfl
    have i2:∀(a0 a1 a2 a3 a4 a5 a6:Int),idx [a0,a1,a2,a3,a4,a5,a6] 2=some a2:=fun _ _ _ _ _ _ _=>rfl
    have i4:∀(a0 a1 a2 a3 a4 a5 a6:Int),idx [a0,a1,a2,a3,a4,a5,a6] 4=some a4:=fun _ _ _ _ _ _ _=>rfl
    have i5:∀(a0 a1 a2 a3 a4 a5 a6:Int),idx [a0,a1,a2,a3,a4,a5,a6] 5=some a5:=fun _ _ _ _ _ _ _=>rfl
    have i6:∀(a0 a1 a2 a3 a4 a5 a6:Int),idx [a0,a1,a2,a3,a4,a5,a6] 6=some a6:=fun _ _ _ _ _ _ _=>rfl
    simp only [i0,i1,i2,i4,i5,Option.bind_some,Nat.reduceAdd]
    unfold bonds_Decode_j1 wirelessref40_Decode_j1
    simp only [i6,Option.bind_some,n44]
    obtain⟨cn,rfl⟩:=Int.eq_ofNat_of_zero_le b0
    rw [loop_u F s cn hF (by omega) hb (by omega),loop_r F s cn hF (by omega) hb (by omega),Option.bind_some,Option.bind_some]
    unfold bonds_Decode_j2 wirelessref40_Decode_j2
    have hde:decide (d > 1)=decide (d≥2):=by simp only [decide_eq_decide]; omega
    simp only [hde]
    generalize hB:T_Bond.mk (T_Identity.mk (decA s x0) (num (List.take 8 (List.drop 7 s)))) (num (List.take 8 (List.drop 15 s))) (num (List.take 8 (List.drop 23 s))) (remp d 2 == 1) (num (List.take 8 (List.drop 32 s))) (decide (d≥2)) (subsOf s cn) (w64 (num (List.take 4 (List.drop 40 s))))=B
    have hBa:U64 B.Peer.Address.Bits:=by rw [← hB]; exact bytes_u64 hb 1 6 (by omega)
    have hBs:B.Subs.length≤255:=by rw [← hB]; simp only; rw [subsOf_len]; omega
    rw [check_same F B hBa]
    obtain⟨e,k1,_⟩:=check_ok F B hF hBa
    rw [k1,Option.bind_some]
    by_cases h6:e=0
    · rw [if_neg (by simpa using h6)]
      exact⟨_,rfl,rfl,hBs⟩
    · rw [if_pos (by simpa using h6)]
      exact⟨_,rfl,rfl,by simp⟩
  · rw [if_neg h5,if_neg h5,if_pos (by simpa using h5),if_pos (by simpa using h5)]
    exact⟨_,rfl,rfl,by simp⟩
def cs (r:Nat):Nat:=r / 2 ^^^ (if r % 2=1 then 14311424 else 0)
theorem xor_half (a b:Nat):(a ^^^ b) / 2=a / 2 ^^^ b / 2:=by
  have:=Nat.xor_div_two_pow (a:=a) (b:=b) (n:=1)
  simpa using this
theorem xor_low (a b:Nat):(a ^^^ b) % 2=(a % 2) ^^^ (b % 2):=by
  have:=Nat.xor_mod_two_pow (a:=a) (b:=b) (n:=1)
  simpa using this
theorem cs_xor (a b:Nat):cs (a ^^^ b)=cs a ^^^ cs b:=by
  unfold cs
  rw [xor_half,xor_low]
  have h1:=Nat.mod_two_eq_zero_or_one a
  have h2:=Nat.mod_two_eq_zero_or_one b
  rcases h1 with h1 | h1 <;> rcases h2 with h2 | h2 <;> rw [h1,h2]
  · simp
  · simp [Nat.xor_assoc]
  · rw [if_pos (by decide),if_pos rfl,if_neg (by decide),Nat.xor_zero,Nat.xor_assoc,Nat.xor_assoc,Nat.xor_comm (b / 2)]
  · rw [if_neg (by decide),Nat.xor_zero]
    simp only [if_true]
    rw [Nat.xor_assoc,← Nat.xor_assoc 14311424,Nat.xor_comm 14311424 (b / 2),Nat.xor_assoc (b / 2),Nat.xor_self,Nat.xor_zero]
theorem cs_two (z:Nat):cs (2 * z)=z:=by
  unfold cs
  rw [if_neg (by omega),Nat.xor_zero]
  omega
def tabN:List Nat:=[0,1788928,3577856,3003392,7155712,7764992,6006784,4252672,14311424,12659712,15529984,16233472,12013568,11279360,8505344,10126336]
theorem or_xor {a b:Nat} (h:a &&& b=0):a ||| b=a ^^^ b:=by
  apply Nat.eq_of_testBit_eq
  intro i
  have:=congrArg (fun z=>z.testBit i) h
  simp only [Nat.testBit_and,Nat.zero_testBit] at this
  rw [Nat.testBit_or,Nat.testBit_xor]
  revert this
  cases a.testBit i <;> cases b.testBit i <;> simp
theorem split2 (k y:Nat):y=(2 ^ k * (y / 2 ^ k)) ^^^ (y % 2 ^ k):=by
  apply Nat.eq_of_testBit_eq
  intro i
  rw [Nat.testBit_xor,Nat.testBit_mod_two_pow,Nat.testBit_two_pow_mul,Nat.testBit_div_two_pow]
  by_cases h:i<k
  · simp [h,show ¬ k≤i from by omega]
  · simp [h,show k≤i from by omega]
theorem split16 (y:Nat):y=(16 * (y / 16)) ^^^ (y % 16):=split2 4 y
theorem cs4 (y:Nat):cs (cs (cs (cs y)))=y / 16 ^^^ tabN.getD (y % 16) 0:=by
  have h:y=(16 * (y / 16)) ^^^ (y % 16):=split16 y
  have hl:∀l,l<16→cs (cs (cs (cs l)))=tabN.getD l 0:=by decide
  have hh:∀z,cs (cs (cs (cs (16 * z))))=z:=fun z=>by
    rw [show 16 * z=2 * (2 * (2 * (2 * z))) from by omega,cs_two,cs_two,cs_two,cs_two]
  calc cs (cs (cs (cs y)))=cs (cs (cs (cs ((16 * (y / 16)) ^^^ (y % 16))))):=by rw [← h]
    _=_:=by rw [cs_xor,cs_xor,cs_xor,cs_xor,hh,hl _ (Nat.mod_lt _ (by decide))]
theorem bit_in (r b:Nat) (hb:b<2):(if (r % 2 ^^^ b)=1 then r / 2 ^^^ 14311424 else r / 2)=cs (r ^^^ b):=by
  unfold cs
  rw [xor_half,xor_low,show b / 2=0 from by omega,Nat.xor_zero]
  have h1:=Nat.mod_two_eq_zero_or_one r
  have h2:b=0∨b=1:=by omega
  rcases h1 with h1 | h1 <;> rcases h2 with rfl | rfl <;> rw [h1] <;> simp
theorem cs_more (r x b:Nat):cs r ^^^ b=cs (r ^^^ 2 * b):=by
  rw [cs_xor,cs_two]
theorem four_bits (r x:Nat):cs (cs (cs (cs (r ^^^ x % 2) ^^^ x / 2 % 2) ^^^ x / 2 / 2 % 2) ^^^ x / 2 / 2 / 2 % 2)=r / 16 ^^^ tabN.getD ((r ^^^ x) % 16) 0:=by
  have h:((x % 2 ^^^ 2 * (x / 2 % 2)) ^^^ 2 * (2 * (x / 2 / 2 % 2))) ^^^ 2 * (2 * (2 * (x / 2 / 2 / 2 % 2)))=x % 16:=by
    have a0:=Nat.mod_lt x (show 0<2 by decide)
    have a1:=Nat.mod_lt (x / 2) (show 0<2 by decide)
    have a2:=Nat.mod_lt (x / 2 / 2) (show 0<2 by decide)
    have a3:=Nat.mod_lt (x / 2 / 2 / 2) (show 0<2 by decide)
    have e:x % 16=x % 2+2 * (x / 2 % 2)+4 * (x / 2 / 2 % 2)+8 * (x / 2 / 2 / 2 % 2):=by omega
    rw [e]
    generalize x % 2=b0 at *
    generalize x / 2 % 2=b1 at *
    generalize x / 2 / 2 % 2=b2 at *
    generalize x / 2 / 2 / 2 % 2=b3 at *
    clear e
    have c0:b0=0∨b0=1:=by omega
    have c1:b1=0∨b1=1:=by omega
    have c2:b2=0∨b2=1:=by omega
    have c3:b3=0∨b3=1:=by omega
    rcases c0 with rfl | rfl <;> rcases c1 with rfl | rfl <;> rcases c2 with rfl | rfl <;> rcases c3 with rfl | rfl <;> rfl
  have h2:cs (cs (cs (cs (r ^^^ x % 2) ^^^ x / 2 % 2) ^^^ x / 2 / 2 % 2) ^^^ x / 2 / 2 / 2 % 2)=cs (cs (cs (cs (r ^^^ x % 16)))):=by
    rw [← h]
    generalize x % 2=b0
    generalize x / 2 % 2=b1
    generalize x / 2 / 2 % 2=b2
    generalize x / 2 / 2 / 2 % 2=b3
    simp only [cs_xor,cs_two,Nat.xor_assoc]
  rw [h2,cs4]
  have e1:(r ^^^ x % 16) / 16=r / 16:=by
    have:=Nat.xor_div_two_pow (a:=r) (b:=x % 16) (n:=4)
    rw [show (2:Nat) ^ 4=16 from rfl] at this
    rw [this,Nat.div_eq_of_lt (Nat.mod_lt x (show 0<16 by decide)),Nat.xor_zero]
  have e2:(r ^^^ x % 16) % 16=(r ^^^ x) % 16:=by
    have h1:=Nat.xor_mod_two_pow (a:=r) (b:=x % 16) (n:=4)
    have h2:=Nat.xor_mod_two_pow (a:=r) (b:=x) (n:=4)
    rw [show (2:Nat) ^ 4=16 from rfl] at h1 h2
    rw [h1,h2,Nat.mod_mod]
  rw [e1,e2]
theorem bv32 {a:Nat} (h:a<4294967296):(BitVec.ofInt 32 (a:Int)).toNat=a:=by
  rw [BitVec.toNat_ofInt]
  rw [show (((a:Nat):Int) % ((2 ^ 32:Nat):Int)).toNat=a from by rw [← Int.natCast_emod,Int.toNat_natCast,Nat.mod_eq_of_lt h]]
theorem wrap32 {a:Nat} (h:a<4294967296):IntKind.u32.wrap (a:Int)=a:=by
  rw [wrap_u32,wu32_id (by omega) (by omega)]
theorem ixor_nat {a b:Nat} (ha:a<4294967296) (hb:b<4294967296):ixor .u32 (a:Int) (b:Int)=((a ^^^ b:Nat):Int):=by
  unfold ixor
  rw [BitVec.toNat_xor]
  show IntKind.u32.wrap (((BitVec.ofInt 32 (a:Int)).toNat ^^^ (BitVec.ofInt 32 (b:Int)).toNat:Nat):Int)=_
  rw [bv32 ha,bv32 hb,wrap32 (Nat.xor_lt_two_pow (n:=32) ha hb)]
theorem iand15 {a:Nat} (ha:a<4294967296):iand .u32 (a:Int) 15=((a % 16:Nat):Int):=by
  unfold iand
  rw [BitVec.toNat_and]
  show IntKind.u32.wrap (((BitVec.ofInt 32 (a:Int)).toNat &&& 15:Nat):Int)=_
  rw [bv32 ha,show a &&& 15=a % 16 from Nat.and_two_pow_sub_one_eq_mod a 4,wrap32 (by omega)]
theorem shr4 (a:Nat):shrp (a:Int) 4=((a / 16:Nat):Int):=by
  unfold shrp
  rw [Int.fdiv_eq_ediv_of_nonneg _ (by decide)]
  omega
def tabI:List Int:=[0,1788928,3577856,3003392,7155712,7764992,6006784,4252672,14311424,12659712,15529984,16233472,12013568,11279360,8505344,10126336]
theorem tab_at (i:Nat) (h:i<16):idx tabI (i:Int)=some ((tabN.getD i 0:Nat):Int):=by
  rw [idx_nat]
  have:∀i,i<16→tabI[i]? = some ((tabN.getD i 0:Nat):Int):=by decide
  exact this i h
theorem tab_lt (i:Nat) (h:i<16):tabN.getD i 0<16777216:=by
  have:∀i,i<16→tabN.getD i 0<16777216:=by decide
  exact this i h
def nib (r x:Nat):Nat:=r / 16 ^^^ tabN.getD ((r ^^^ x) % 16) 0
theorem nib_lt {r x:Nat} (hr:r<16777216):nib r x<16777216:=Nat.xor_lt_two_pow (n:=24) (by omega) (tab_lt _ (Nat.mod_lt _ (by decide)))
theorem crc_feed_eq (F:Nat) (r x:Nat) (hr:r<16777216) (hx:x<256):crc_feed F (r:Int) (x:Int)=some ((nib (nib r x) (x / 16):Nat):Int):=by
  unfold crc_feed
  have hn:=nib_lt (x:=x) hr
  have hx1:r ^^^ x<16777216:=Nat.xor_lt_two_pow (n:=24) hr (by omega)
  have hx2:nib r x ^^^ x / 16<16777216:=Nat.xor_lt_two_pow (n:=24) hn (by omega)
  rw [wu32_id (by omega) (by omega),ixor_nat (by omega) (by omega),iand15 (by omega)]
  show (idx tabI _).bind _=_
  rw [tab_at _ (Nat.mod_lt _ (by decide)),Option.bind_some,shr4,ixor_nat (by omega) (by have:=tab_lt ((r ^^^ x) % 16) (Nat.mod_lt _ (by decide)); omega)]
  show (idx tabI (iand .u32 (ixor .u32 ((nib r x:Nat):Int) _) 15)).bind (fun x_4=>some (ixor .u32 (shrp ((nib r x:Nat):Int) 4) x_4))=_
  rw [shr4,wu32_id (by omega) (by omega),ixor_nat (by omega) (by omega),iand15 (by omega),tab_at _ (Nat.mod_lt _ (by decide)),Option.bind_some,shr4,ixor_nat (by omega) (by have:=tab_lt ((nib r x ^^^ x / 16) % 16) (Nat.mod_lt _ (by decide)); omega)]
  rfl
theorem cs_lt {r:Nat} (h:r<16777216):cs r<16777216:=by
  unfold cs
  exact Nat.xor_lt_two_pow (n:=24) (by omega) (by split <;> omega)
theorem in_lt {r b:Nat} (h:r<16777216) (hb:b<2):r ^^^ b<16777216:=Nat.xor_lt_two_pow (n:=24) h (by omega)
theorem rfeed_eq (F:Nat) (r b:Nat) (hr:r<16777216) (hb:b<2):wirelessref03_feed F (r:Int) (b:Int)=some ((cs (r ^^^ b):Nat):Int):=by
  unfold wirelessref03_feed wirelessref03_feed_j1
  have e1:remp (r:Int) 2=((r % 2:Nat):Int):=by unfold remp; rw [Int.tmod_eq_emod_of_nonneg (by omega)]; omega
  have e2:quop .u32 (r:Int) 2=((r / 2:Nat):Int):=by unfold quop; rw [Int.tdiv_eq_ediv_of_nonneg (by omega),show (r:Int) / 2=((r / 2:Nat):Int) from by omega,wrap32 (by omega)]
  rw [e1,e2,ixor_nat (by omega) (by omega),← bit_in r b hb]
  rw [show (14311424:Int)=((14311424:Nat):Int) from rfl,ixor_nat (by omega) (by omega)]
  by_cases h:(r % 2 ^^^ b)=1
  · rw [if_pos (by rw [h]; rfl),if_pos h]
  · rw [if_neg (by simp; omega),if_neg h]
def rn (r x:Nat):Nat→Nat×Nat
  | 0=>(r,x)
  | i+1=>(cs ((rn r x i).1 ^^^ (rn r x i).2 % 2),(rn r x i).2 / 2)
theorem rn_lt {r x:Nat} (hr:r<16777216) (hx:x<256):∀i,(rn r x i).1<16777216∧(rn r x i).2<256
  | 0=>⟨hr,hx⟩
  | i+1=>by
    have h:=rn_lt hr hx i
    exact⟨cs_lt (in_lt h.1 (Nat.mod_lt _ (by decide))),by simp only [rn]; omega⟩
theorem rn8 (r x:Nat):(rn r x 8).1=nib (nib r x) (x / 16):=by
  have e:x / 16=x / 2 / 2 / 2 / 2:=by omega
  rw [e]
  simp only [rn,four_bits]
  rfl
theorem rsum_in (F:Nat) (r x:Nat) (hr:r<16777216) (hx:x<256) (hF:9<F):iter (fun s:Int×Int×Int=>wirelessref03_Sum_l2 F s.1 s.2.1 s.2.2) F ((r:Int),(x:Int),0)=some ((nib (nib r x) (x / 16):Nat):Int):=by
  rw [← rn8]
  exact iter_count (body:=fun s:Int×Int×Int=>wirelessref03_Sum_l2 F s.1 s.2.1 s.2.2) (fun i=>(((rn r x i).1:Int),((rn r x i).2:Int),(i:Int))) 8 (((rn r x 8).1:Nat):Int) (by
    intro i hi
    obtain⟨h1,h2⟩:=rn_lt hr hx i
    show wirelessref03_Sum_l2 F ((rn r x i).1:Int) ((rn r x i).2:Int) (i:Int)=some (.next (((cs ((rn r x i).1 ^^^ (rn r x i).2 % 2):Nat):Int),(((rn r x i).2 / 2:Nat):Int),((i+1:Nat):Int)))
    generalize (rn r x i).1=a at *
    generalize (rn r x i).2=c at *
    unfold wirelessref03_Sum_l2
    have e1:remp (c:Int) 2=((c % 2:Nat):Int):=by unfold remp; rw [Int.tmod_eq_emod_of_nonneg (by omega)]; omega
    have e2:quop .u32 (c:Int) 2=((c / 2:Nat):Int):=by unfold quop; rw [Int.tdiv_eq_ediv_of_nonneg (by omega),show (c:Int) / 2=((c / 2:Nat):Int) from by omega,wrap32 (by omega)]
    rw [if_pos (decide_eq_true (by omega)),e1,rfeed_eq F a (c % 2) h1 (Nat.mod_lt _ (by decide)),Option.bind_some,e2,w64_nat i (by omega)]) (by
    show wirelessref03_Sum_l2 F _ _ ((8:Nat):Int)=_
    unfold wirelessref03_Sum_l2
    rw [if_neg (by decide)]) F 0 (by omega) (by omega)
def crcs (r:Nat):List Int→Nat
  | []=>r
  | x::l=>crcs (nib (nib r x.toNat) (x.toNat / 16)) l
theorem crcs_lt {r:Nat} (hr:r<16777216):∀l,crcs r l<16777216
  | []=>hr
  | x::l=>crcs_lt (nib_lt (nib_lt hr)) l
theorem crcs_snoc:∀(l:List Int) (r:Nat) (x:Int),crcs r (l++[x])=nib (nib (crcs r l) x.toNat) (x.toNat / 16)
  | [],r,x=>rfl
  | y::l,r,x=>by rw [List.cons_append,crcs,crcs,crcs_snoc l]
theorem crc_sum_eq (F:Nat) (b:List Int) (hb:∀x∈b,Byte x) (hl:b.length+1<F) (hF:F≤FF):crc_Sum F 0 b=some ((crcs 0 b:Nat):Int):=by
  unfold crc_Sum
  have hFF:FF=1125899906842624:=rfl
  rw [show iand .u32 0 16777215=0 from by decide]
  have h:iter (fun s:Int×Int=>crc_Sum_l1 F b s.1 s.2) F (0,0)=some ((crcs 0 b:Nat):Int):=iter_count (body:=fun s:Int×Int=>crc_Sum_l1 F b s.1 s.2) (fun i=>(((crcs 0 (b.take i):Nat):Int),(i:Int))) b.length ((crcs 0 b:Nat):Int) (by
    intro i hi
    show crc_Sum_l1 F b _ (i:Int)=_
    unfold crc_Sum_l1
    have hx:b[i]? = some b[i]:=List.getElem?_eq_getElem hi
    have hby:=hb _ (List.getElem_mem hi)
    rw [List.take_add_one,hx,Option.toList_some,crcs_snoc]
    generalize b[i]=x at *
    obtain⟨h0,h1⟩:=hby
    obtain⟨x,rfl⟩:=Int.eq_ofNat_of_zero_le h0
    have hc:=crcs_lt (r:=0) (by decide) (b.take i)
    rw [if_pos (dt (by rw [len_nat]; omega)),idx_nat,hx,Option.bind_some,crc_feed_eq F _ _ hc (by omega),Option.bind_some,w64_nat i (by omega)]
    rfl) (by
    show crc_Sum_l1 F b _ _=_
    unfold crc_Sum_l1
    rw [if_neg (df (by rw [len_nat]; omega)),List.take_length]) F 0 (by omega) (by omega)
  rw [h]
  rfl
theorem ref_sum_eq (F:Nat) (b:List Int) (hb:∀x∈b,Byte x) (hl:b.length+9<F) (hF:F≤FF):wirelessref03_Sum F 0 b=some ((crcs 0 b:Nat):Int):=by
  unfold wirelessref03_Sum
  have hFF:FF=1125899906842624:=rfl
  rw [show remp 0 16777216=0 from by decide]
  have h:iter (fun s:Int×Int=>wirelessref03_Sum_l1 F b s.1 s.2) F (0,0)=some ((crcs 0 b:Nat):Int):=iter_count (body:=fun s:Int×Int=>wirelessref03_Sum_l1 F b s.1 s.2) (fun i=>(((crcs 0 (b.take i):Nat):Int),(i:Int))) b.length ((crcs 0 b:Nat):Int) (by
    intro i hi
    show wirelessref03_Sum_l1 F b _ (i:Int)=_
    unfold wirelessref03_Sum_l1 wirelessref03_Sum_j2
    have hx:b[i]? = some b[i]:=List.getElem?_eq_getElem hi
    have hby:=hb _ (List.getElem_mem hi)
    rw [List.take_add_one,hx,Option.toList_some,crcs_snoc]
    generalize b[i]=x at *
    obtain⟨h0,h1⟩:=hby
    obtain⟨x,rfl⟩:=Int.eq_ofNat_of_zero_le h0
    have hc:=crcs_lt (r:=0) (by decide) (b.take i)
    rw [if_pos (dt (by rw [len_nat]; omega)),idx_nat,hx,Option.bind_some,wu32_id (by omega) (by omega),rsum_in F _ _ hc (by omega) (by omega),Option.bind_some,w64_nat i (by omega)]
    rfl) (by
    show wirelessref03_Sum_l1 F b _ _=_
    unfold wirelessref03_Sum_l1
    rw [if_neg (df (by rw [len_nat]; omega)),List.take_length]) F 0 (by omega) (by omega)
  rw [h]
  rfl
theorem bv64 {a:Nat} (h:a<18446744073709551616):(BitVec.ofInt 64 (a:Int)).toNat=a:=by
  rw [BitVec.toNat_ofInt]
  rw [show (((a:Nat):Int) % ((2 ^ 64:Nat):Int)).toNat=a from by rw [← Int.natCast_emod,Int.toNat_natCast,Nat.mod_eq_of_lt h]]
theorem ior8 (x b:Nat) (hx:x<281474976710656) (hb:b<256):ior .i64 ((x * 256:Nat):Int) (b:Int)=((x * 256+b:Nat):Int):=by
  unfold ior
  rw [BitVec.toNat_or]
  show IntKind.i64.wrap (((BitVec.ofInt 64 ((x * 256:Nat):Int)).toNat ||| (BitVec.ofInt 64 (b:Int)).toNat:Nat):Int)=_
  rw [bv64 (by omega),bv64 (by omega),Nat.or_comm,nat_or_add b x 8 hb,wrap_i64,w64_id (by omega) (by omega)]
  congr 1
  omega
theorem value_eq (F:Nat) (l:List Int) (hb:∀x∈l,Byte x) (hl:l.length≤6) (hF:8<F):flash_value F l=some (num l):=by
  unfold flash_value
  have:=iter_count (body:=fun s:Int×Int=>flash_value_l1 F l s.1 s.2) (fun j=>(num (l.drop (l.length - j)),((l.length - j:Nat):Int) - 1)) l.length (num l) (by
    intro j hj
    have hi:l.length - j - 1<l.length:=by omega
    have hx:l[l.length - j - 1]? = some l[l.length - j - 1]:=List.getElem?_eq_getElem hi
    have hdr:l.drop (l.length - j - 1)=l[l.length - j - 1]::l.drop (l.length - j - 1+1):=List.drop_eq_getElem_cons hi
    have hby:=hb _ (List.getElem_mem hi)
    generalize l[l.length - j - 1]=x at hx hdr hby
    have hn0:=num_nonneg (l:=l.drop (l.length - j)) (fun y hy=>hb y (List.mem_of_mem_drop hy))
    have hn1:=num_lt (l:=l.drop (l.length - j)) (fun y hy=>hb y (List.mem_of_mem_drop hy))
    have hn2:(256:Int) ^ (l.drop (l.length - j)).length≤281474976710656:=by
      have h2:(256:Nat) ^ (l.drop (l.length - j)).length≤256 ^ 6:=Nat.pow_le_pow_right (by decide) (by rw [List.length_drop]; omega)
      have h3:((256 ^ (l.drop (l.length - j)).length:Nat):Int)≤((256 ^ 6:Nat):Int):=Int.ofNat_le.2 h2
      rw [Int.natCast_pow] at h3
      exact h3
    rw [show l.length - j - 1+1=l.length - j from by omega] at hdr
    obtain⟨hb0,hb1⟩:=hby
    show flash_value_l1 F l (num (l.drop (l.length - j))) (((l.length - j:Nat):Int) - 1)=_
    unfold flash_value_l1
    rw [if_pos (dt (by omega)),show ((l.length - j:Nat):Int) - 1=((l.length - j - 1:Nat):Int) from by omega,idx_nat,hx,Option.bind_some]
    rw [show l.length - (j+1)=l.length - j - 1 from by omega,hdr,num]
    generalize num (l.drop (l.length - j))=n at *
    obtain⟨n,rfl⟩:=Int.eq_ofNat_of_zero_le hn0
    obtain⟨x,rfl⟩:=Int.eq_ofNat_of_zero_le hb0
    have e:shlp .i64 (n:Int) 8=((n * 256:Nat):Int):=by
      unfold shlp
      rw [wrap_i64,w64_id (by omega) (by omega)]
      omega
    rw [e,w64_id (x:=(x:Int)) (by omega) (by omega),ior8 n x (by omega) (by omega),w64_id (by omega) (by omega)]
    congr 3
    omega) (by
    show flash_value_l1 F l _ (((l.length - l.length:Nat):Int) - 1)=_
    unfold flash_value_l1
    rw [if_neg (df (by omega)),Nat.sub_self,List.drop_zero]) F 0 (by omega) (by omega)
  have h0:num (l.drop (l.length - 0))=0:=by rw [Nat.sub_zero,List.drop_length]; rfl
  rw [h0] at this
  rw [len_nat,w64_id (by omega) (by omega)]
  rw [show ((l.length - 0:Nat):Int) - 1=(l.length:Int) - 1 from by omega] at this
  rw [this,Option.bind_some]
  rfl
theorem number_eq (F:Nat) (k:Nat) (v:Int) (hk:1≤k∧k≤8) (h0:0≤v) (h1:v<256 ^ k) (h2:v<18446744073709551616) (hF:20<F):flash_number F (k:Int) v=some (leb k v):=by
  unfold flash_number
  rw [oput_ok F [T_Field.mk (k:Int) v] (by
    intro f hf
    rw [List.mem_singleton] at hf
    subst hf
    exact⟨by simp only; omega,by simp only; omega,h0,h2,h1⟩) (by simp) (by simp; omega)]
  show some (leb ((k:Int).toNat) v++[])=_
  rw [List.append_nil,Int.toNat_natCast]
theorem join_three (F:Nat) (a b c:List Int) (hF:3<F) (h:a.length+b.length+c.length≤140737488355328):octets_Join F [a,b,c]=some (a++b++c):=by
  unfold octets_Join
  obtain⟨F',rfl⟩:∃F',F=F'+1+1+1+1:=⟨F - 4,by omega⟩
  have h1:octets_Join_l1 (F'+1+1+1+1) [a,b,c] [] 0=some (.next (a,1)):=by simpa using join_step (F'+1+1+1+1) [a,b,c] [] 0 a rfl (by simp; omega) (by simp)
  have h2:octets_Join_l1 (F'+1+1+1+1) [a,b,c] a 1=some (.next (a++b,2)):=by simpa using join_step (F'+1+1+1+1) [a,b,c] a 1 b rfl (by omega) (by simp)
  have h3:octets_Join_l1 (F'+1+1+1+1) [a,b,c] (a++b) 2=some (.next (a++b++c,3)):=join_step (F'+1+1+1+1) [a,b,c] (a++b) 2 c rfl (by simp; omega) (by simp)
  rw [iter_step h1,iter_step h2,iter_step h3,iter_stop (o:=a++b++c) (by unfold octets_Join_l1; rw [if_neg (by simp [len])])]
  rfl
def sealB (b:List Int):List Int:=b++leb 3 (crcs 0 b:Nat)++[0]
theorem seal_len (b:List Int):(sealB b).length=b.length+4:=by simp [sealB,leb_length]
theorem leb3 (c:Nat) (hc:c<16777216) : [wu8 (c:Int),wu8 (shrp (c:Int) 8),wu8 (shrp (c:Int) 16)]=leb 3 (c:Int):=by
  unfold shrp
  rw [Int.fdiv_eq_ediv_of_nonneg _ (by decide),Int.fdiv_eq_ediv_of_nonneg _ (by decide)]
  simp only [leb,wu8]
  rw [show (c:Int) / 256 / 256=(c:Int) / 2 ^ 16 from by omega,show (c:Int) / 2 ^ 8=(c:Int) / 256 from by omega]
theorem sealed_eq (F:Nat) (b:List Int) (hb:∀x∈b,Byte x) (hl:b.length+20<F) (hF:F≤FF) (hl2:b.length≤100000):flash_sealed F b=some (sealB b):=by
  unfold flash_sealed crc_Append slices_Clone_byte_byte
  have hc:=crcs_lt (r:=0) (by decide) b
  rw [crc_sum_eq F b hb (by omega) hF,Option.bind_some,app_cat (by simp; omega),Option.bind_some,Option.bind_some,List.nil_append,leb3 _ hc,app_cat (by simp [leb_length]; omega),Option.bind_some,Option.bind_some,join_two F _ _ (by omega) (by simp [leb_length]; omega)]
  rfl
def headB (n:Int):List Int:=sealB ([66,75]++leb 4 n)
def recB (k:Int) (v:List Int):List Int:=sealB (leb 2 v.length++leb 2 k++v)
theorem recB_len (k:Int) (v:List Int):(recB k v).length=v.length+8:=by simp [recB,seal_len,leb_length]; omega
theorem headB_len (n:Int):(headB n).length=10:=by simp [headB,seal_len,leb_length]
theorem byte_app {l m:List Int} (h1:∀x∈l,Byte x) (h2:∀x∈m,Byte x):∀x∈l++m,Byte x:=fun x hx=>by
  rcases List.mem_append.1 hx with h | h
  · exact h1 x h
  · exact h2 x h
theorem seal_byte {b:List Int} (hb:∀x∈b,Byte x):∀x∈sealB b,Byte x:=byte_app (byte_app hb (leb_byte _ _)) (fun x hx=>by rw [List.mem_singleton] at hx; subst hx; exact⟨by decide,by decide⟩)
theorem head_in (n:Int):∀x∈[66,75]++leb 4 n,Byte x:=byte_app (fun x hx=>by
  have:x=66∨x=75:=by simpa using hx
  unfold Byte
  omega) (leb_byte _ _)
theorem rec_in (k:Int) {v:List Int} (hv:∀x∈v,Byte x):∀x∈leb 2 v.length++leb 2 k++v,Byte x:=byte_app (byte_app (leb_byte _ _) (leb_byte _ _)) hv
theorem header_eq (F:Nat) (n:Int) (h0:0≤n) (h1:n<4294967296) (h:100<F) (hF:F≤FF):flash_header F n=some (headB n):=by
  unfold flash_header
  rw [wu64_id (by omega) (by omega)]
  have:=number_eq F 4 n (by decide) h0 (by simpa using h1) (by omega) (by omega)
  rw [show ((4:Nat):Int)=4 from rfl] at this
  rw [this,Option.bind_some,join_two F _ _ (by omega) (by simp [leb_length]),Option.bind_some,sealed_eq F _ (head_in n) (by simp [leb_length]; omega) hF (by simp [leb_length]),Option.bind_some]
  rfl
theorem record_eq (F:Nat) (k:Int) (v:List Int) (h0:0≤k) (h1:k<65536) (hv:∀x∈v,Byte x) (hl:v.length≤10000) (h:20000<F) (hF:F≤FF):flash_record F k v=some (recB k v):=by
  unfold flash_record
  rw [wu64_id (x:=k) (by omega) (by omega),len_nat,wu64_id (by omega) (by omega)]
  have e1:=number_eq F 2 (v.length:Int) (by decide) (by omega) (by show (v.length:Int)<65536; omega) (by omega) (by omega)
  have e2:=number_eq F 2 k (by decide) h0 (by simpa using h1) (by omega) (by omega)
  rw [show ((2:Nat):Int)=2 from rfl] at e1 e2
  rw [e1,Option.bind_some,e2,Option.bind_some,join_three F _ _ _ (by omega) (by simp [leb_length]; omega),Option.bind_some,sealed_eq F _ (rec_in k hv) (by simp [leb_length]; omega) hF (by simp [leb_length]; omega),Option.bind_some]
  rfl
theorem rheader_eq (F:Nat) (n:Int) (h0:0≤n) (h1:n<4294967296) (h:100<F) (hF:F≤FF):wirelessref39_Header F n=some (headB n):=by
  unfold wirelessref39_Header
  have hc:=crcs_lt (r:=0) (by decide) ([66,75]++leb 4 n)
  rw [wu64_id (by omega) (by omega)]
  have e1:=rnum_ok F 4 n (by omega) (by omega) ⟨by omega,by omega⟩
  have e2:=rnum_ok F 3 ((crcs 0 ([66,75]++leb 4 n):Nat):Int) (by omega) (by omega) ⟨by omega,by omega⟩
  rw [show ((4:Nat):Int)=4 from rfl] at e1
  rw [show ((3:Nat):Int)=3 from rfl] at e2
  rw [e1,Option.bind_some,app_cat (by simp [leb_length]),Option.bind_some,ref_sum_eq F _ (head_in n) (by simp [leb_length]; omega) hF,Option.bind_some,wu64_id (by omega) (by omega),e2,Option.bind_some,app_cat (by simp [leb_length]),Option.bind_some,app_cat (by simp [leb_length]),Option.bind_some]
  rfl
theorem rrecord_eq (F:Nat) (k:Int) (v:List Int) (h0:0≤k) (h1:k<65536) (hv:∀x∈v,Byte x) (hl:v.length≤10000) (h:20000<F) (hF:F≤FF):wirelessref39_Record F k v=some (recB k v):=by
  unfold wirelessref39_Record
  have hc:=crcs_lt (r:=0) (by decide) (leb 2 v.length++leb 2 k++v)
  rw [wu64_id (x:=k) (by omega) (by omega),len_nat,wu64_id (by omega) (by omega)]
  have e1:=rnum_ok F 2 (v.length:Int) (by omega) (by omega) ⟨by omega,by omega⟩
  have e2:=rnum_ok F 2 k (by omega) (by omega) ⟨by omega,by omega⟩
  have e3:=rnum_ok F 3 ((crcs 0 (leb 2 v.length++leb 2 k++v):Nat):Int) (by omega) (by omega) ⟨by omega,by omega⟩
  rw [show ((2:Nat):Int)=2 from rfl] at e1 e2
  rw [show ((3:Nat):Int)=3 from rfl] at e3
  rw [e1,Option.bind_some,e2,Option.bind_some,app_cat (by simp [leb_length]),Option.bind_some,app_cat (by simp [leb_length]; omega),Option.bind_some,ref_sum_eq F _ (rec_in k hv) (by simp [leb_length]; omega) hF,Option.bind_some,wu64_id (by omega) (by omega),e3,Option.bind_some,app_cat (by simp [leb_length]; omega),Option.bind_some,app_cat (by simp [leb_length]; omega),Option.bind_some]
  rfl
theorem zip_any:∀(l m:List Int),l.length=m.length→(l.zip m).any (fun q=>q.1 != q.2) = !decide (l=m)
  | [],[],_=>rfl
  | x::l,y::m,h=>by
    have ih:=zip_any l m (by simpa using h)
    rw [List.zip_cons_cons,List.any_cons,ih]
    by_cases h1:x=y
    · subst h1; simp
    · simp [h1]
theorem equal_eq (F:Nat) (l m:List Int) (hl:l.length≤100000) (hF:200000<F):slices_Equal_byte_byte F l m=some (decide (l=m)):=by
  unfold slices_Equal_byte_byte
  rw [len_nat,len_nat]
  by_cases h:l.length=m.length
  · rw [if_neg (by simp; omega)]
    have:=iter_any (body:=fun s:Int=>slices_Equal_byte_byte_l1 F l m s) (l:=l.zip m) (p:=fun q=>q.1 != q.2) (o:=.inr false) (e:=.inl ()) (by
      rintro i ⟨x,y⟩ hxy
      rw [List.getElem?_zip_eq_some] at hxy
      obtain⟨hx,hy⟩:=hxy
      simp only at hx hy
      have hi:i<l.length:=(List.getElem?_eq_some_iff.1 hx).1
      show slices_Equal_byte_byte_l1 F l m (i:Int)=_
      unfold slices_Equal_byte_byte_l1 slices_Equal_byte_byte_j2
      rw [if_pos (dt (by rw [len_nat]; omega)),idx_nat,idx_nat,hx,Option.bind_some,hy,Option.bind_some,w64_nat i (by omega)]
      by_cases hq:(x != y)=true
      · rw [if_pos hq,if_pos hq]
      · rw [if_neg hq,if_neg hq]) (by
      show slices_Equal_byte_byte_l1 F l m _=_
      unfold slices_Equal_byte_byte_l1
      rw [if_neg (df (by rw [len_nat]; simp; omega))]) F 0 (by omega) (by simp; omega)
    rw [show ((0:Nat):Int)=0 from rfl] at this
    rw [this,Option.bind_some,List.drop_zero,zip_any l m h]
    by_cases hq:l=m
    · subst hq
      simp [slices_Equal_byte_byte_j1]
    · simp [hq]
  · rw [if_pos (by simp; omega)]
    have:l≠m:=fun e=>h (by rw [e])
    simp [this]
end V
end Go.Proofs.YtbdhonofhlpdoaaDoor
