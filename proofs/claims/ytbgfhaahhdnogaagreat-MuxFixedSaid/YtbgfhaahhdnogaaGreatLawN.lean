/- Numbers and bytes: what the functions of octets, and Put and -/
import Derived.Test.YtbgfhaahhdnogaaGreatLoop
import Derived.Test.YtbgfhaahhdnogaaGreatFn
import Derived.KernelRfl
namespace Go.Proofs.YtbgfhaahhdnogaaGreat
namespace V
theorem bs{α β:Type}(a:α)(f:α→Option β):(some a).bind f=f a:=rfl
theorem gE{α:Type}{l:List α}{i:Nat}(h:i<l.length):l[i]?=some l[i]:=List.getElem?_eq_getElem h
theorem lA{α:Type}{l m:List α}:(l++m).length=l.length+m.length:=List.length_append
theorem gM{α:Type}{l:List α}{i:Nat}(h:i<l.length):l[i]∈l:=List.getElem_mem h
theorem gS{α:Type}{l:List α}{i:Nat}{a:α}:l[i]?=some a↔∃h:i<l.length,l[i]=a:=List.getElem?_eq_some_iff
def FF:Nat:=1125899906842624
def Byte(x:Int):Prop:=0≤x∧x<256
def xR:Nat→Int→List Int
 | 0,_=>[]
 | k+1,n=>n%256::xR k (n/256)
def num:List Int→Int
 | []=>0
 | b::r=>b+256*num r
theorem lL:∀k n,(xR k n).length=k
 | 0,_=>rfl
 | k+1,n=>by simp[xR,lL k]
theorem vv:∀k n,∀x∈xR k n,Byte x
 | 0,_,x,h=>by cases h
 | k+1,n,x,h=>by
   rcases List.mem_cons.1 h with rfl | h
   ·exact⟨Int.emod_nonneg _ (by decide),Int.emod_lt_of_pos _ (by decide)⟩
   ·exact vv k _ x h
theorem qU(k:Nat):(256:Int)^(k+1)=256*256^k:=by rw[Int.pow_succ,Int.mul_comm]
theorem JV(k:Nat):(0:Int)<256^k:=Int.pow_pos (by decide)
theorem Ip:∀(k:Nat) (n:Int),xR (k+1) n=xR k n++[n/256^k%256]
 | 0,n=>by simp[xR]
 | k+1,n=>by
   have:=Ip k (n/256)
   rw[xR,this,xR,List.cons_append,qU,Int.ediv_ediv_of_nonneg (by decide:(0:Int)≤256)]
theorem num_nonneg:∀{l:List Int},(∀x∈l,Byte x)→0≤num l
 | [],_=>by simp[num]
 | b::r,h=>by
   have h1:=(h b (by simp)).1
   have h2:=num_nonneg (l:=r) fun x hx=>h x (by simp[hx])
   simp only[num];omega
theorem J5:∀{l:List Int},(∀x∈l,Byte x)→num l<256^l.length
 | [],_=>by simp[num]
 | b::r,h=>by
   have h1:=(h b (by simp)).2
   have h2:=J5 (l:=r) fun x hx=>h x (by simp[hx])
   simp only[num,List.length_cons,qU];omega
theorem Fu:∀{l:List Int},(∀x∈l,Byte x)→xR l.length (num l)=l
 | [],_=>rfl
 | b::r,h=>by
   obtain⟨h0,h1⟩:=h b (by simp)
   have hr:=Fu (l:=r) fun x hx=>h x (by simp[hx])
   simp only[List.length_cons,xR,num]
   rw[show(b+256*num r)%256=b from by omega,show(b+256*num r)/256=num r from by omega,hr]
theorem Ao:∀(l m:List Int),num (l++m)=num l+256^l.length*num m
 | [],m=>by simp[num]
 | b::r,m=>by
   simp only[List.cons_append,num,List.length_cons,qU,Ao r m,Int.mul_add,Int.mul_assoc]
   omega
theorem Ma{l m:List Int}(h:l.length+m.length≤140737488355328):app 1 l m=some (l++m):=by
 rw[dP (by omega) (by omega)]
theorem nX:∀{l:List Int},(∀x∈l,Byte x)→str l=l
 | [],_=>rfl
 | b::r,h=>by
   obtain⟨h0,h1⟩:=h b (by simp)
   have hr:=nX (l:=r) fun x hx=>h x (by simp[hx])
   unfold str at hr ⊢
   rw[List.map_cons,hr]
   congr 1
   have:(UInt8.ofNat b.toNat).toNat=b.toNat:=by
    simp
    omega
   rw[this]
   omega
theorem join_step(F:Nat)(ps:List (List Int))(l:List Int)(i:Nat)(x:List Int)(hx:ps[i]? = some x)(hl:l.length+x.length≤140737488355328)(hi:ps.length≤9000000000000000000):qo F ps l i=some (.next (l++x,((i+1:Nat):Int))):=by
 have hlt:i<ps.length:=(gS.1 hx).1
 unfold qo
 have hd:decide ((i:Int)<len ps)=true:=by simp[len];omega
 rw[if_pos hd,dN,hx]
 simp only[bs]
 rw[Ma hl]
 simp only[bs]
 rw[wN i (by omega)]
theorem AO(F:Nat)(a b:List Int)(hF:2<F)(h:a.length+b.length≤140737488355328):q9 F [a,b]=some (a++b):=by
 unfold q9
 obtain⟨F',rfl⟩:∃F',F=F'+1+1+1:=⟨F-3,by omega⟩
 have h1:qo (F'+1+1+1) [a,b] [] 0=some (.next (a,1)):=by simpa using join_step (F'+1+1+1) [a,b] [] 0 a rfl (by simp;omega) (by simp)
 have h2:qo (F'+1+1+1) [a,b] a 1=some (.next (a++b,2)):=by simpa using join_step (F'+1+1+1) [a,b] a 1 b rfl (by omega) (by simp)
 rw[bV h1,bV h2,aW (o:=a++b) (by unfold qo;rw[if_neg (by simp[len])])]
 rfl
theorem join_one(F:Nat)(a:List Int)(hF:1<F)(h:a.length≤140737488355328):q9 F [a]=some a:=by
 unfold q9
 obtain⟨F',rfl⟩:∃F',F=F'+1+1:=⟨F-2,by omega⟩
 have h1:qo (F'+1+1) [a] [] 0=some (.next (a,1)):=by simpa using join_step (F'+1+1) [a] [] 0 a rfl (by simp;omega) (by simp)
 rw[bV h1,aW (o:=a) (by unfold qo;rw[if_neg (by simp[len])])]
 rfl
theorem CW{v:Int}(i:Nat)(hi:i≤8)(_h0:0≤v):Iw .u64 v (aI (8*i))=some (v/256^i):=by
 rw[bN (by omega) (by omega)]
 unfold Iw
 rw[if_neg (by omega)]
 have h1:min (8*(i:Int)).toNat IntKind.u64.bits=8*i:=by
  show min (8*(i:Int)).toNat 64=8*i
  omega
 rw[h1,show(2:Int)^(8*i)=256^i from by rw[Int.pow_mul];rfl,Int.fdiv_eq_ediv_of_nonneg _ (Int.le_of_lt (JV i))]
structure zl(f:sV):Prop where
 s0:1≤f.Size
 s1:f.Size≤8
 v0:0≤f.Value
 v1:f.Value<18446744073709551616
 v2:f.Value<256^f.Size.toNat
theorem UA(F:Nat)(x:sV)(hx:zl x)(l:List Int)(hl:l.length≤1000000)(hF:9<F):iter (fun s=>Uq F x s.1 s.2) F (l,0)=some (l++xR x.Size.toNat x.Value):=by
 obtain⟨s0,s1,v0,v1,v2⟩:=hx
 have:=dW (body:=fun s:List Int×Int=>Uq F x s.1 s.2) (fun i=>(l++xR i x.Value,(i:Int))) x.Size.toNat (l++xR x.Size.toNat x.Value) (by
  intro i hi
  show Uq F x (l++xR i x.Value) i=_
  unfold Uq
  rw[if_pos (by simp;omega),CW i (by omega) v0]
  simp only[bs]
  rw[Ma (by simp[lL];omega)]
  simp only[bs]
  rw[wN i (by omega),Ip,List.append_assoc]
  rfl) (by
  show Uq F x _ _=_
  unfold Uq
  rw[if_neg (by simp;omega)]) F 0 (by omega) (by omega)
 simpa [xR]using this
def kr(fs:List sV):List Int:=(fs.map fun f=>xR f.Size.toNat f.Value).flatten
theorem Ag:∀{fs:List sV},(∀f∈fs,zl f)→(kr fs).length≤8*fs.length
 | [],_=>by simp[kr]
 | f::fs,h=>by
   have h1:=h f (by simp)
   have h2:=Ag (fs:=fs) fun g hg=>h g (by simp[hg])
   obtain⟨s0,s1,_⟩:=h1
   simp only[kr,List.map_cons,List.flatten_cons,lA,lL,List.length_cons]at h2 ⊢
   omega
theorem Li(F:Nat)(fs:List sV)(h:∀f∈fs,zl f)(hn:fs.length≤1000)(hF:fs.length+9<F):q2n F fs=some (kr fs,0):=by
 unfold q2n
 have:=dW (body:=fun s:List Int×Int=>WE F fs s.1 s.2) (fun i=>(kr (fs.take i),(i:Int))) fs.length (.inl (kr fs)) (by
  intro i hi
  have hx:fs[i]? = some fs[i]:=gE hi
  have hf:=h fs[i] (gM hi)
  have hlen:=Ag (fs:=fs.take i) (fun f hf=>h f (List.mem_of_mem_take hf))
  have htl:(fs.take i).length≤i:=by simp;omega
  show WE F fs (kr (fs.take i)) i=_
  unfold WE
  rw[if_pos (by simp[len];omega),dN,hx]
  simp only[bs,q2l]
  obtain⟨s0,s1,v0,v1,v2⟩:=hf
  have hsz:(!(decide (fs[i].Size≥1)&&decide (fs[i].Size≤8)))=false:=by simp;omega
  rw[hsz]
  simp only[Bool.false_eq_true,if_false]
  have hz:((if decide (fs[i].Size<8)=true then(Iw IntKind.u64 fs[i].Value (aI (8*fs[i].Size))).bind fun qH=>some (qH != 0)else some false))=some false:=by
   by_cases h8:fs[i].Size<8
   ·rw[if_pos (by simpa using h8)]
    have:=CW (v:=fs[i].Value) fs[i].Size.toNat (by omega) v0
    rw[show((fs[i].Size.toNat:Nat):Int)=fs[i].Size from by omega]at this
    rw[this,Int.ediv_eq_zero_of_lt v0 v2]
    rfl
   ·rw[if_neg (by simpa using h8)]
  rw[hz]
  simp only[bs,Bool.false_eq_true,if_false]
  rw[UA F fs[i] ⟨s0,s1,v0,v1,v2⟩ _ (by omega) (by omega)]
  simp only[bs,q6o]
  rw[wN i (by omega),List.take_add_one,hx]
  simp only[kr,List.map_append,List.flatten_append,Option.toList_some,List.map_cons,List.map_nil,List.flatten_cons,List.flatten_nil,List.append_nil]) (by
  show WE F fs _ _=_
  unfold WE
  rw[if_neg (by simp[len]),List.take_length]) F 0 (by omega) (by omega)
 simp only[List.take_zero]at this
 have h0:(kr [],((0:Nat):Int))=(([]:List Int),(0:Int)):=rfl
 rw[h0]at this
 rw[this]
 rfl
end V
namespace V
theorem dt{p:Prop} [Decidable p](h:p):decide p=true:=decide_eq_true h
theorem df{p:Prop} [Decidable p](h:¬ p):¬ decide p=true:=fun e=>h (of_decide_eq_true e)
def fidx{α:Type}(p:α→Bool)(l:List α):Int:=match l.findIdx? p with
 | some i=>(i:Int)
 | none=>-1
theorem AR{α γ β:Type}{body:γ×Int→Option (Out (γ×Int) (Sum γ β))}{l:List α}{p:α→Bool}{c:γ}{g:Int→β}(h:∀(i:Nat) x,l[i]? = some x→body (c,(i:Int))=some (if p x=true then .done (.inr (g (i:Int)))else .next (c,((i+1:Nat):Int))))(he:body (c,(l.length:Int))=some (.done (.inl c))) :
 ∀(m:List α) (F k:Nat),l.drop k=m→k≤l.length→m.length<F→iter body F (c,(k:Int))=some (match m.findIdx? p with
  | some i=>.inr (g ((k+i:Nat):Int))
  | none=>.inl c)
 | [],F,k,hd,hk,hF=>by
   have hk2:k=l.length:=by
    have:=congrArg List.length hd
    rw[List.length_drop,List.length_nil]at this
    omega
   subst hk2
   cases F with
   | zero=>simp at hF
   | succ F=>rw[aW he];rfl
 | x::m,F,k,hd,hk,hF=>by
   have hx:l[k]? = some x:=by
    have:=congrArg (fun z:List α=>z[0]?) hd
    simpa using this
   have hlt:=(gS.1 hx).1
   have hd2:l.drop (k+1)=m:=by
    have:=congrArg List.tail hd
    simpa using this
   have hb:=h k x hx
   cases F with
   | zero=>simp at hF
   | succ F=>
     rw[List.findIdx?_cons]
     by_cases hp:p x=true
     ·rw[if_pos hp]at hb
      rw[aW hb,if_pos hp]
      simp
     ·rw[if_neg hp]at hb
      rw[bV hb,AR h he m F (k+1) hd2 hlt (by simp at hF;omega),if_neg hp]
      cases m.findIdx? p with
      | none=>rfl
      | some i=>
        simp only[Option.map_some]
        rw[show k+1+i=k+(i+1) by omega]
theorem ku{α γ β:Type}{body:γ×Int→Option (Out (γ×Int) (Sum γ β))}{l:List α}{p:α→Bool}{c:γ}{g:Int→β}(h:∀(i:Nat) x,l[i]? = some x→body (c,(i:Int))=some (if p x=true then .done (.inr (g (i:Int)))else .next (c,((i+1:Nat):Int))))(he:body (c,(l.length:Int))=some (.done (.inl c)))
 {F:Nat} (hF:l.length<F):iter body F (c,0)=some (match l.findIdx? p with
  | some i=>.inr (g (i:Int))
  | none=>.inl c):=by
 have:=AR h he l F 0 (by simp) (by omega) hF
 rw[show((0:Nat):Int)=0 from rfl]at this
 rw[this]
 cases l.findIdx? p with
 | none=>rfl
 | some i=>simp
theorem tN{α:Type}(p:α→Bool)(l:List α):(fidx p l = -1∧l.any p=false)∨∃(i:Nat) (x:α),fidx p l=(i:Int)∧l[i]? = some x∧p x=true∧∀j,j<i→∀y,l[j]? = some y→p y=false:=by
 unfold fidx
 cases h:l.findIdx? p with
 | none=>
   refine .inl ⟨rfl,?_⟩
   rw[List.findIdx?_eq_none_iff]at h
   rw[List.any_eq_false]
   intro x hx
   simp[h x hx]
 | some i=>
   rw[List.findIdx?_eq_some_iff_getElem]at h
   obtain⟨h1,h2,h3⟩:=h
   refine .inr ⟨i,l[i],rfl,gE h1,h2,fun j hj y hy=>?_⟩
   have h4:=h3 j hj
   rw[gE (by omega)]at hy
   injection hy with hy
   rw[← hy]
   simpa using h4
theorem qZ{α:Type}(p:α→Bool)(l:List α):decide (fidx p l≥0)=l.any p:=by
 rcases tN p l with⟨h1,h2⟩ | ⟨i,x,h1,h2,h3,_⟩
 ·rw[h1,h2];rfl
 ·rw[h1,List.any_eq_true.2 ⟨x,List.mem_of_getElem? h2,h3⟩]
  exact dt (by omega)
theorem upd_same{α:Type}{l:List α}{i:Nat}{x:α}(h:l[i]? = some x):upd l (i:Int) x=some l:=by
 have hlt:=(gS.1 h).1
 unfold upd
 rw[if_pos (by omega),Int.toNat_natCast]
 congr 1
 apply List.ext_getElem?
 intro j
 rw[List.getElem?_set]
 split
 ·rename_i e
  subst e
  exact h.symm
 ·rfl
theorem bf{α:Type}{l:List α}{i:Nat}{x:α}(h:l[i]? = some x):idx l (i:Int)=some x:=by rw[dN,h]
theorem iJ{α:Type}{l:List α}{i:Nat}{x:α}(h:l[i]? = some x):l.take i++[x]=l.take (i+1):=by
 rw[List.take_add_one,h];rfl
theorem y5(F:Nat)(l:List (List Int))(hF:l.length<F)(hl:l.length<1000000)(hs:l.flatten.length≤140737488355328):q9 F l=some l.flatten:=by
 unfold q9 q6c
 have:=dW (body:=fun s:List Int×Int=>qo F l s.1 s.2) (fun i=>((l.take i).flatten,(i:Int))) l.length l.flatten (fun i hi=>by
  have hx:l[i]? = some l[i]:=gE hi
  have hfl:(l.take i).flatten++l[i]=(l.take (i+1)).flatten:=by rw[← iJ hx,List.flatten_append,List.flatten_singleton]
  have hle:(l.take (i+1)).flatten.length≤l.flatten.length:=by
   have h1:=congrArg (fun z=>(List.flatten z).length) (List.take_append_drop (i+1) l)
   simp only[List.flatten_append,lA]at h1
   omega
  show qo F l _ _=_
  unfold qo
  rw[if_pos (by simp[len];omega)]
  simp only[dN,hx,bs]
  rw[dP (by rw[← lA,hfl];omega) (by omega)]
  simp only[bs,hfl,wN i (by omega)]) (by
  show qo F l _ _=_
  unfold qo
  rw[if_neg (by simp[len])]
  simp) F 0 (by omega) (by omega)
 rw[List.take_zero,List.flatten_nil,show((0:Nat):Int)=0 from rfl]at this
 rw[this]
 rfl
theorem vO{α:Type}{k:Nat}{l:List α}(hk:0<k)(h:l.length*k≤140737488355328):app k ([]:List α) l=some l:=by
 rw[dP (by simpa using h) hk,List.nil_append]
structure Sz(m:aL):Prop where
 J9:m.ak.length≤1000000
 ask:m.aD.length≤1000000
 chs:m.aj.length≤1000000
 out:m.Out.length≤1000000000
 cout:∀c∈m.aj,c.Out.length≤1000∧c.In.length≤1000000
 crow:∀c∈m.aj,∀s∈c.Out,s.length≤1000000
 pay:∀f∈m.Out,f.Payload.length≤1000000
 buf:m.ay.Buffer.length≤1000000000
theorem L8(F:Nat)(l:List eZ)(h:l.length≤1000000):q24 F l=some l:=by
 unfold q24
 rw[vO (by omega) (by omega)];rfl
theorem Vu(F:Nat)(l:List aT)(h:l.length≤1000000):q40 F l=some l:=by
 unfold q40
 rw[vO (by omega) (by omega)];rfl
theorem Vw(F:Nat)(l:List aS)(h:l.length≤1000000):q41 F l=some l:=by
 unfold q41
 rw[vO (by omega) (by omega)];rfl
theorem Vv(F:Nat)(l:List bM)(h:l.length≤1000000000):q42 F l=some l:=by
 unfold q42
 rw[vO (by omega) (by omega)];rfl
theorem Ry(F:Nat)(l:List (List Int))(hF:1000000000<F)(hl:l.length≤1000)(hs:∀s∈l,s.length≤1000000):q3h F l=some l:=by
 unfold q3h q6d
 have:=dW (body:=fun s:List (List Int)×Int=>WR F l s.1 s.2) (fun i=>(l.take i,(i:Int))) l.length l (fun i hi=>by
  have hx:l[i]? = some l[i]:=gE hi
  have hm:=hs _ (gM hi)
  show WR F l _ _=_
  unfold WR
  rw[if_pos (by simp[len];omega)]
  simp only[dN,hx,bs]
  rw[join_one F _ (by omega) (by omega),bs,dP (by simp;omega) (by omega)]
  simp only[bs,iJ hx,wN i (by omega)]) (by
  show WR F l _ _=_
  unfold WR
  rw[if_neg (by simp[len])]
  simp) F 0 (by omega) (by omega)
 rw[List.take_zero,show((0:Nat):Int)=0 from rfl]at this
 rw[this]
 rfl
theorem uV(F:Nat)(m:aL)(hF:10000000000<F)(h:Sz m):qf F m=some ⟨m,[]⟩:=by
 unfold qf
 rw[L8 F _ h.J9,Vu F _ h.ask,Vw F _ h.chs,Vv F _ h.out]
 simp only[bs]
 unfold q6g
 have h1:=dW (body:=fun s:List aS×Int=>WO F m s.1 s.2) (fun i=>(m.aj,(i:Int))) m.aj.length m.aj (fun i hi=>by
  have hx:m.aj[i]? = some m.aj[i]:=gE hi
  have hm:=h.cout _ (gM hi)
  have hlen:=h.chs
  show WO F m _ _=_
  unfold WO
  rw[if_pos (by simp[len];omega)]
  simp only[bf hx,bs]
  rw[Ry F _ (by omega) hm.1 (h.crow _ (gM hi)),bs,join_one F _ (by omega) (by omega),bs]
  rw[upd_same hx]
  simp only[bs,bf hx]
  rw[upd_same hx]
  simp only[bs,wN i (by omega)]) (by
  show WO F m _ _=_
  unfold WO
  rw[if_neg (by simp[len])]) F 0 (by omega) (by have:=h.chs;omega)
 rw[show((0:Nat):Int)=0 from rfl]at h1
 rw[h1,bs]
 unfold q6f
 have h2:=dW (body:=fun s:List bM×Int=>WQ F m s.1 s.2) (fun i=>(m.Out,(i:Int))) m.Out.length m.Out (fun i hi=>by
  have hx:m.Out[i]? = some m.Out[i]:=gE hi
  have hm:=h.pay _ (gM hi)
  have hlen:=h.out
  show WQ F m _ _=_
  unfold WQ
  rw[if_pos (by simp[len];omega)]
  simp only[bf hx,bs]
  rw[join_one F _ (by omega) (by omega),bs]
  rw[upd_same hx]
  simp only[bs,wN i (by omega)]) (by
  show WQ F m _ _=_
  unfold WQ
  rw[if_neg (by simp[len])]) F 0 (by omega) (by have:=h.out;omega)
 rw[show((0:Nat):Int)=0 from rfl]at h2
 rw[h2,bs]
 unfold q6e
 have:=h.buf
 rw[join_one F _ (by omega) (by omega)]
 rfl
end V
namespace V
theorem Ar(a b i:Nat)(ha:a<2^i):a ||| (b*2^i)=a+b*2^i:=by
 have h:=Nat.shiftLeft_add_eq_or_of_lt ha b
 rw[Nat.shiftLeft_eq]at h
 rw[Nat.or_comm,← h,Nat.add_comm]
theorem P7(i:Nat):(256:Int)^i=((2^(8*i):Nat):Int):=by
 rw[Nat.pow_mul,show(2:Nat)^8=256 from by decide]
 exact(congrArg (fun z:Int=>z^i) (rfl:(256:Int)=((256:Nat):Int))).trans (Int.natCast_pow 256 i).symm
theorem U2(a b:Int)(i:Nat)(hi:i<8)(h0:0≤a)(h1:a<256^i)(h2:Byte b):uo .u64 a (b*256^i)=a+b*256^i:=by
 obtain⟨b0,b1⟩:=h2
 obtain⟨a,rfl⟩:=Int.eq_ofNat_of_zero_le h0
 obtain⟨b,rfl⟩:=Int.eq_ofNat_of_zero_le b0
 have hp:=P7 i
 rw[hp]at h1 ⊢
 have ha:a<2^(8*i):=by exact_mod_cast h1
 have hb:b<256:=by omega
 have hle:(2:Nat)^(8*i)≤2^56:=Nat.pow_le_pow_right (by decide) (by omega)
 have hbl:b*2^(8*i)<2^64:=by
  have:b*2^(8*i)≤255*2^56:=Nat.mul_le_mul (by omega) hle
  omega
 have hs:a+b*2^(8*i)<2^64:=by
  have:(b+1)*2^(8*i)≤256*2^56:=Nat.mul_le_mul (by omega) hle
  rw[Nat.add_mul]at this
  omega
 unfold uo
 have e:((b:Int)*((2^(8*i):Nat):Int))=((b*2^(8*i):Nat):Int):=by rw[Int.natCast_mul]
 have e2:(BitVec.ofInt IntKind.u64.bits (a:Int) ||| BitVec.ofInt IntKind.u64.bits ((b:Int)*((2^(8*i):Nat):Int))).toNat=a+b*2^(8*i):=by
  rw[e,BitVec.toNat_or]
  show(BitVec.ofInt 64 (a:Int)).toNat ||| (BitVec.ofInt 64 ((b*2^(8*i):Nat):Int)).toNat=_
  rw[BitVec.toNat_ofInt,BitVec.toNat_ofInt]
  rw[show(((a:Nat):Int)%((2^64:Nat):Int)).toNat=a from by rw[← Int.natCast_emod,Int.toNat_natCast,Nat.mod_eq_of_lt (by omega)]]
  rw[show(((b*2^(8*i):Nat):Int)%((2^64:Nat):Int)).toNat=b*2^(8*i)from by rw[← Int.natCast_emod,Int.toNat_natCast,Nat.mod_eq_of_lt hbl]]
  exact Ar a b (8*i) ha
 rw[e2,wrap_u64]
 unfold wu64
 rw[Int.natCast_add,Int.natCast_mul]
 rw[show((a:Int)+(b:Int)*((2^(8*i):Nat):Int))=((a+b*2^(8*i):Nat):Int)from by rw[Int.natCast_add,Int.natCast_mul]]
 omega
theorem H9(i:Nat):(2:Int)^(8*i)=((2^(8*i):Nat):Int):=(congrArg (fun z:Int=>z^(8*i)) (rfl:(2:Int)=((2:Nat):Int))).trans (Int.natCast_pow 2 (8*i)).symm
theorem Yh(x i:Nat)(h1:(x:Int)<256)(hi:i<8):x*2^(8*i)≤255*2^56:=by
 have hle:(2:Nat)^(8*i)≤2^56:=Nat.pow_le_pow_right (by decide) (by omega)
 exact Nat.mul_le_mul (by omega) hle
theorem Tp(q:Nat)(hb:q≤255*2^56):wu64 (q:Int)=q:=by
 rw[uy (by omega) (by omega)]
theorem Pq(x i:Nat)(hi:i<8):Iy .u64 (x:Int) (8*i)=some (IntKind.u64.wrap ((x:Int)*2^(8*i))):=by
 unfold Iy
 rw[if_neg (by omega)]
 have e1:min (8*(i:Int)).toNat IntKind.u64.bits=8*i:=by
  show min (8*(i:Int)).toNat 64=8*i
  omega
 rw[e1]
theorem MU{x:Int}(hx:Byte x)(i:Nat)(hi:i<8):Iy .u64 (wu64 x) (aI (8*i))=some (x*256^i):=by
 obtain⟨h0,h1⟩:=hx
 obtain⟨x,rfl⟩:=Int.eq_ofNat_of_zero_le h0
 have e1:aI (8*(i:Int))=8*i:=bN (by omega) (by omega)
 have e2:wu64 (x:Int)=x:=uy (by omega) (by omega)
 have e3:=Tp _ (Yh x i h1 hi)
 rw[Int.natCast_mul,← H9]at e3
 have e4:(256:Int)^i=2^(8*i):=(P7 i).trans (H9 i).symm
 rw[e1,e2,Pq x i hi,wrap_u64,e3,e4]
theorem X5(F:Nat)(b:List Int)(k i:Nat)(a p:Int)(x:Int)(hc:decide ((i:Int)<(k:Int))=true)(hx:b[i]? = some x)(hw:aI ((i:Int)+1)=((i+1:Nat):Int))(hs:Iy .u64 (wu64 x) (aI (8*(i:Int)))=some p)(ho:uo .u64 a p=a+p):S9 F b k a i=some (.next (a+p,((i+1:Nat):Int))):=by
 unfold S9
 rw[if_pos hc,dN,hx,bs,hs,bs,ho,hw]
theorem Qh(b:List Int)(i:Nat)(x:Int)(hx:b[i]? = some x)(hlen:(b.take i).length=i):num (b.take (i+1))=num (b.take i)+x*256^i:=by
 rw[List.take_add_one,hx,Ao,hlen,Int.mul_comm x]
 simp only[Option.toList_some,num,Int.mul_zero,Int.add_zero]
theorem Tx{b:List Int}{i:Nat}(ht:∀x∈b.take i,Byte x)(hlen:(b.take i).length=i):num (b.take i)<256^i:=by
 have h:=J5 ht
 rw[hlen]at h
 exact h
theorem aa8(F:Nat)(b:List Int)(k i:Nat)(hi8:i<8)(hin:i<9223372036854775807)(hc:decide ((i:Int)<(k:Int))=true)(x:Int)(hx:b[i]? = some x)(hbx:Byte x)(ht:∀x∈b.take i,Byte x)(hlen:(b.take i).length=i):S9 F b k (num (b.take i)) i=some (.next (num (b.take (i+1)),((i+1:Nat):Int))):=
 (X5 F b k i (num (b.take i)) (x*256^i) x hc hx (wN i hin) (MU hbx i hi8) (U2 _ _ i hi8 (num_nonneg ht) (Tx ht hlen) hbx)).trans (by rw[Qh b i x hx hlen])
theorem Tz(F:Nat)(b:List Int)(k:Nat)(hk:k≤8)(hl:k≤b.length)(hb:∀x∈b,Byte x)(hF:9<F):iter (fun s=>S9 F b k s.1 s.2) F (0,0)=some (num (b.take k)):=by
 have:=dW (body:=fun s:Int×Int=>S9 F b k s.1 s.2) (fun i=>(num (b.take i),(i:Int))) k (num (b.take k)) (fun i hi=>by
  have hil:i<b.length:=by omega
  exact aa8 F b k i (by omega) (by omega) (decide_eq_true (by omega)) b[i] (gE hil) (hb _ (gM hil)) (fun x hx=>hb x (List.mem_of_mem_take hx)) (by simp;omega)) (by
  show S9 F b k _ _=_
  unfold S9
  rw[if_neg (by simp)]) F 0 (by omega) (by omega)
 exact this
def fO:List Int→List Nat→List Int
 | _,[]=>[]
 | b,k::ks=>num (b.take k)::fO (b.drop k) ks
def iK(ks:List Nat):List Int:=ks.map fun(k:Nat)=>(k:Int)
def fD:List Nat→Nat
 | []=>0
 | k::ks=>k+fD ks
theorem kP:∀a b,fD (a++b)=fD a+fD b
 | [],b=>by simp[fD]
 | x::a,b=>by simp[fD,kP a b];omega
theorem CO:∀(ks:List Nat) (b:List Int),(fO b ks).length=ks.length
 | [],_=>rfl
 | k::ks,b=>by simp[fO,CO ks]
theorem uz:∀(a c:List Nat) (b:List Int),fO b (a++c)=fO b a++fO (b.drop (fD a)) c
 | [],c,b=>by simp[fO,fD]
 | k::a,c,b=>by simp[fO,fD,uz a c,List.drop_drop]
theorem TD{ks:List Nat}(h:∀k∈ks,1≤k∧k≤8):fD ks≤8*ks.length:=by
 induction ks with
 | nil=>simp[fD]
 | cons k ks ih=>
   have h1:=h k (by simp)
   have h2:=ih fun k hk=>h k (by simp[hk])
   simp[fD];omega
theorem GD(F:Nat)(ks:List Nat)(h:∀k∈ks,1≤k∧k≤8)(hn:ks.length≤1000)(hF:ks.length<F):iter (fun s=>Ul F (iK ks) s.1 s.2) F (0,0)=some (.inl (fD ks:Int)):=by
 have:=dW (body:=fun s:Int×Int=>Ul F (iK ks) s.1 s.2) (fun i=>((fD (ks.take i):Int),(i:Int))) ks.length (.inl (fD ks:Int)) (by
  intro i hi
  have hx:ks[i]? = some ks[i]:=gE hi
  have hk:=h ks[i] (gM hi)
  have hs:=TD (ks:=ks.take i) fun k hk=>h k (List.mem_of_mem_take hk)
  have hlen:(ks.take i).length≤i:=by simp;omega
  show Ul F (iK ks) (fD (ks.take i):Int) i=_
  unfold Ul
  rw[if_pos (by simp[len,iK];omega),dN]
  simp only[iK,List.getElem?_map,hx,Option.map_some,bs,q2l]
  rw[if_neg (by simp;omega),wN i (by omega),bN (by omega) (by omega),List.take_add_one,hx,kP]
  simp[fD]) (by
  show Ul F (iK ks) _ _=_
  unfold Ul
  rw[if_neg (by simp[len,iK]),List.take_length]) F 0 (by omega) (by omega)
 simpa [fD]using this
theorem Tw(F:Nat)(b:List Int)(ks:List Nat)(h:∀k∈ks,1≤k∧k≤8)(hn:ks.length≤1000)(hF:ks.length+9<F)(hb:∀x∈b,Byte x)(hbl:b.length≤140737488355328)(hl:fD ks≤b.length):q2t F b (iK ks)=some (fO b ks,b.drop (fD ks),0):=by
 unfold q2t
 rw[GD F ks h hn (by omega)]
 simp only[bs,q61]
 rw[if_neg (by simp[len];omega)]
 have:=dW (body:=fun s:List Int×List Int×Int=>Wx F (iK ks) s.1 s.2.1 s.2.2) (fun i=>(b.drop (fD (ks.take i)),fO b (ks.take i),(i:Int))) ks.length (b.drop (fD ks),fO b ks) (by
  intro i hi
  have hx:ks[i]? = some ks[i]:=gE hi
  have hk:=h ks[i] (gM hi)
  have hsum:fD (ks.take i)+ks[i]≤fD ks:=by
   have e1:fD (ks.take (i+1))=fD (ks.take i)+ks[i]:=by rw[List.take_add_one,hx,kP];simp[fD]
   have e2:fD ks=fD (ks.take (i+1))+fD (ks.drop (i+1)):=by rw[← kP,List.take_append_drop]
   omega
  have hlen:(ks.take i).length≤i:=by simp;omega
  show Wx F (iK ks) (b.drop (fD (ks.take i))) (fO b (ks.take i)) i=_
  unfold Wx
  rw[if_pos (by simp[len,iK];omega),dN]
  simp only[iK,List.getElem?_map,hx,Option.map_some,bs]
  rw[Tz F (b.drop (fD (ks.take i))) ks[i] hk.2 (by simp;omega) (fun x hx=>hb x (List.mem_of_mem_drop hx)) (by omega)]
  simp only[bs,q72]
  rw[dP (by rw[CO];simp;omega) (by decide)]
  simp only[bs]
  have hs:=kG (b.drop (fD (ks.take i))) ks[i] (b.drop (fD (ks.take i))).length (by simp;omega) (by omega)
  rw[lN,hs]
  simp only[bs,q71,List.take_length,List.drop_drop]
  rw[wN i (by omega),List.take_add_one,hx,kP,uz]
  simp[fD,fO]) (by
  show Wx F (iK ks) _ _ _=_
  unfold Wx
  rw[if_neg (by simp[len,iK]),List.take_length]) F 0 (by omega) (by omega)
 simp only[List.take_zero,fD,List.drop_zero,fO]at this
 have h0:((0:Nat):Int)=0:=rfl
 rw[h0]at this
 rw[this]
 simp only[bs,q70]
 rw[join_one F _ (by omega) (by simp;omega)]
 rfl
theorem JG(F:Nat)(b:List Int)(ks:List Nat)(h:∀k∈ks,1≤k∧k≤8)(hn:ks.length≤1000)(hF:ks.length+9<F)(hl:b.length<fD ks):q2t F b (iK ks)=some ([],[],3):=by
 unfold q2t
 rw[GD F ks h hn (by omega)]
 simp only[bs,q61]
 rw[if_pos (by simp[len];omega)]
end V
namespace V
structure adD where
 Known:Bool
 bU:Bool
 Source:Bool
 bR:Bool
 Xo:Bool
 aA:Bool
 Result:Bool
 Update:Bool
namespace Sg
theorem kinds(k:Int):k=1∨k=6∨k=7∨k=18∨k=19∨k=20∨k=21∨k=22∨(k≠1∧k≠6∧k≠7∧k≠18∧k≠19∧k≠20∧k≠21∧k≠22):=by omega
def aH(k:Int):adD:=
 if k=1∨k=19 then⟨true,false,false,false,false,false,true,false⟩
 else if k=6∨k=7 then⟨true,false,true,true,false,false,false,false⟩
 else if k=18 then⟨true,false,false,false,false,false,false,true⟩
 else if k=20 then⟨true,true,true,false,true,true,false,false⟩
 else if k=21 then⟨true,false,true,false,true,true,true,false⟩
 else if k=22 then⟨true,false,true,false,false,true,false,false⟩
 else⟨false,false,false,false,false,false,false,false⟩
theorem AL(F:Nat)(k:Int):q2f F k=some (aH k).Known:=by
 rcases kinds k with rfl | rfl | rfl | rfl | rfl | rfl | rfl | rfl | h
 any_goals rfl
 obtain⟨h1,h2,h3,h4,h5,h6,h7,h8⟩:=h
 simp[q2f,Tc,aH,h1,h2,h3,h4,h5,h6,h7,h8]
def wu(u:jo):Bool:=((u.bL==0)&&((u.aX==0)&&((u.Interval==0)&&((u.aO==0)&&(u.Timeout==0)))))
def eU(s:aT):Bool:=
 ((aH s.Kind).bU||s.bU==0)&&((aH s.Kind).Source||s.Source==0)&&((aH s.Kind).bR||s.bR==0)&&((aH s.Kind).Xo||(s.bZ==0&&s.cu==0))&&((aH s.Kind).aA||s.aA==0)&&((aH s.Kind).Result||s.Result==0) &&
   ((aH s.Kind).Update||wu s.Update)
theorem EH(F:Nat)(s:aT):∃x,q46 F s=some x∧((s.Kind==x.Kind)&&((s.ID==x.ID)&&((s.bU==x.bU)&&((s.Source==x.Source)&&((s.bR==x.bR)&&((s.bZ==x.bZ)&&((s.cu==x.cu)&&((s.aA==x.aA)&&((s.Result==x.Result)&&((s.Update.bL==x.Update.bL)&&((s.Update.aX==x.Update.aX)&&((s.Update.Interval==x.Update.Interval)&&((s.Update.aO==x.Update.aO)&&(s.Update.Timeout==x.Update.Timeout))))))))))))))=eU s:=by
 obtain⟨k,id,p,so,de,mt,mp,cr,re,⟨u1,u2,u3,u4,u5⟩⟩:=s
 rcases kinds k with rfl | rfl | rfl | rfl | rfl | rfl | rfl | rfl | h
 any_goals
  refine⟨_,rfl,?_⟩
  simp[eU,aH,wu,Bool.and_assoc]
 ·obtain⟨h1,h2,h3,h4,h5,h6,h7,h8⟩:=h
  refine⟨_,by simp only[q46,h1,h2,h3,h4,h5,h6,h7,h8,beq_iff_eq,if_false];rfl,?_⟩
  simp[eU,aH,wu,Bool.and_assoc,h1,h2,h3,h4,h5,h6,h7,h8]
def j4(s:aT):Bool:=!(aH s.Kind).Result||(if s.Kind=1 then((s.Result==0)||(s.Result==2))else if s.Kind=19 then((s.Result==0)||(s.Result==1))else(((((s.Result==0)||(s.Result==2))||(s.Result==4))||(s.Result==5))||(s.Result==9)))
theorem Nj(F:Nat)(s:aT):q3j F s=some (j4 s):=by
 obtain⟨k,id,p,so,de,mt,mp,cr,re,u⟩:=s
 rcases kinds k with rfl | rfl | rfl | rfl | rfl | rfl | rfl | rfl | h
 any_goals rfl
 ·simp only[q3j,YN,j4,aH]
  cases h0:re==0 <;> cases h1:re==2 <;> cases h2:re==4 <;> cases h3:re==5 <;> simp
  by_cases h9:re=9 <;> simp[h9]
 ·obtain⟨h1,h2,h3,h4,h5,h6,h7,h8⟩:=h
  simp[q3j,j4,aH,h1,h2,h3,h4,h5,h6,h7,h8]
def lG(n:Int):Bool:=(decide (n≥64))&&(decide (n≤127))
def V9(n:Int):Bool:=(decide (n≥23))&&(decide (n≤4096))
def gY(s:aT):Bool:=(!(aH s.Kind).Source||lG s.Source)&&(!(aH s.Kind).bR||lG s.bR)&&(!(aH s.Kind).Xo||(V9 s.bZ&&V9 s.cu))&&(!(aH s.Kind).aA||((decide (s.aA≥(if s.Kind=22 then 1 else 0)))&&(decide (s.aA≤65535))))
theorem Nl(F:Nat)(s:aT):Uu F s=some (gY s):=by
 obtain⟨k,id,p,so,de,mt,mp,cr,re,u⟩:=s
 rcases kinds k with rfl | rfl | rfl | rfl | rfl | rfl | rfl | rfl | h
 ·rfl
 ·simp only[Uu,Ur,qp,gY,aH,lG]
  cases (decide (so≥64))&&(decide (so≤127)) <;> simp
 ·simp only[Uu,Ur,qp,gY,aH,lG]
  cases (decide (so≥64))&&(decide (so≤127)) <;> simp
 ·rfl
 ·rfl
 ·simp only[Uu,Ur,YM,qp,q2h,gY,aH,lG,V9]
  cases (decide (so≥64))&&(decide (so≤127)) <;> cases (decide (mt≥23))&&(decide (mt≤4096)) <;> simp[Bool.and_assoc]
 ·simp only[Uu,Ur,YM,qp,q2h,gY,aH,lG,V9]
  cases (decide (so≥64))&&(decide (so≤127)) <;> cases (decide (mt≥23))&&(decide (mt≤4096)) <;> simp[Bool.and_assoc]
 ·simp only[Uu,Ur,YM,qp,gY,aH,lG]
  simp[Bool.and_assoc]
 ·obtain⟨h1,h2,h3,h4,h5,h6,h7,h8⟩:=h
  simp[Uu,Ur,YM,gY,aH,h1,h2,h3,h4,h5,h6,h7,h8]
def oQ(p:vT):Bool:=!((decide (p.n<p.low))||(decide (p.n>p.high)))
theorem MB(F:Nat)(l:List vT)(hF:l.length<F)(hl:l.length≤1000):q47 F l=some (l.all oQ):=by
 unfold q47
 have:=AU (body:=fun s=>WG F l s) (l:=l) (p:=fun p=>!oQ p) (o:=.inr false) (e:=.inl ()) (fun i x hx=>by
  have hlt:=(gS.1 hx).1
  show WG F l i=_
  unfold WG
  rw[if_pos (by simp[len];omega),dN,hx]
  simp only[bs,oQ,Bool.not_not]
  rw[wN i (by omega)]
  split <;> rfl) (by
  show WG F l _=_
  unfold WG
  rw[if_neg (by simp[len])]) F 0 (by omega) (by omega)
 rw[show((0:Nat):Int)=0 from rfl]at this
 rw[this]
 simp only[bs,List.drop_zero]
 have h2:(l.any fun p=>!oQ p) = !(l.all oQ):=by
  rw[List.any_eq_not_all_not]
  simp
 rw[h2]
 cases l.all oQ <;> rfl
def mJ(u:jo):Int:=
 if ([(⟨u.bL,1,8⟩:vT),⟨u.aX,0,3200⟩,⟨u.Interval,6,3200⟩,⟨u.aO,0,499⟩,⟨u.Timeout,10,3200⟩].all oQ)=false then 5 else
 if (((decide (u.bL≥u.Interval))||(decide (u.aX>u.Interval)))||(decide ((aI (u.Timeout*10000))≤(aI ((aI ((aI (2*(aI (u.aO+1))))*u.Interval))*1250)))))=true then 11 else 0
theorem O9(F:Nat)(u:jo)(hF:5<F):q2j F u=some (mJ u):=by
 unfold q2j mJ
 rw[MB F _ (by simpa using hF) (by simp)]
 simp only[bs]
 generalize List.all _ oQ=b
 cases b <;> simp <;> split <;> rfl
def vY(s:aT):Int:=
 if (aH s.Kind).Known=false then 12 else if ((decide (s.ID<1))||(decide (s.ID>255)))=true then 5 else if eU s=false then 1 else if j4 s=false then 5 else
 if ((s.Kind==21)&&(s.Result != 0))=true then(if ((((s.Source != 0)||(s.bZ != 0))||(s.cu != 0))||(s.aA != 0))=true then 1 else 0)else
 if ((aH s.Kind).bU&&(s.bU==0))=true then 1 else if gY s=false then 5 else if (aH s.Kind).Update=true then mJ s.Update else 0
theorem P6(k:Int):(aH k).bU=(k==20):=by
 rcases kinds k with rfl | rfl | rfl | rfl | rfl | rfl | rfl | rfl | h
 any_goals rfl
 obtain⟨h1,h2,h3,h4,h5,h6,h7,h8⟩:=h
 simp[aH,h1,h2,h3,h4,h5,h6,h7,h8]
theorem Gw(k:Int):(aH k).Update=(k==18):=by
 rcases kinds k with rfl | rfl | rfl | rfl | rfl | rfl | rfl | rfl | h
 any_goals rfl
 obtain⟨h1,h2,h3,h4,h5,h6,h7,h8⟩:=h
 simp[aH,h1,h2,h3,h4,h5,h6,h7,h8]
theorem CV(F:Nat)(s:aT)(hF:5<F):q2k F s=some (vY s):=by
 unfold q2k vY
 obtain⟨x,hx,he⟩:=EH F s
 rw[AL,hx]
 simp only[bs,he,q6l,Nj,Nl,O9 F _ hF,P6,Gw]
 cases (aH s.Kind).Known <;> simp only[Bool.not_true,Bool.not_false,if_true,if_false,Bool.false_eq_true,reduceCtorEq]
 cases (decide (s.ID<1))||(decide (s.ID>255)) <;> simp only[if_true,if_false,Bool.false_eq_true]
 cases eU s <;> simp only[Bool.not_true,Bool.not_false,if_true,if_false,Bool.false_eq_true,reduceCtorEq]
 cases j4 s <;> simp only[Bool.not_true,Bool.not_false,if_true,if_false,Bool.false_eq_true,reduceCtorEq]
 cases (s.Kind==21)&&(s.Result != 0) <;> simp only[if_true,if_false,Bool.false_eq_true]
 ·cases (s.Kind==20)&&(s.bU==0) <;> simp only[if_true,if_false,Bool.false_eq_true]
  cases gY s <;> simp only[Bool.not_true,Bool.not_false,if_true,if_false,Bool.false_eq_true,reduceCtorEq]
  cases s.Kind==18 <;> simp only[if_true,if_false,Bool.false_eq_true]
 ·split <;> rfl
end Sg
end V
namespace V
namespace Sg
def aY(s:aT):List (Nat×Int):=
 if s.Kind=1∨s.Kind=19 then [(2,s.Result)]
 else if s.Kind=6∨s.Kind=7 then [(2,s.Source),(2,s.bR)]
 else if s.Kind=18 then [(1,s.Update.bL),(2,s.Update.aX),(2,s.Update.Interval),(2,s.Update.aO),(2,s.Update.Timeout)]
 else if s.Kind=20 then [(2,s.bU),(2,s.Source),(2,s.bZ),(2,s.cu),(2,s.aA)]
 else if s.Kind=21 then [(2,s.Source),(2,s.bZ),(2,s.cu),(2,s.aA),(2,s.Result)]
 else [(2,s.Source),(2,s.aA)]
def Fit(s:aT):Prop:=∀p∈aY s,0≤p.2∧p.2<256^p.1
theorem iQ{s:aT}(h:vY s=0):(aH s.Kind).Known=true∧1≤s.ID∧s.ID≤255∧eU s=true∧j4 s=true∧
 ((s.Kind=21∧s.Source=0∧s.bZ=0∧s.cu=0∧s.aA=0)∨(gY s=true∧(s.Kind=18→mJ s.Update=0))):=by
 unfold vY at h
 split at h
 ·cases h
 rename_i h1
 split at h
 ·cases h
 rename_i h2
 split at h
 ·cases h
 rename_i h3
 split at h
 ·cases h
 rename_i h4
 simp at h2
 refine⟨by simpa using h1,by omega,by omega,by simpa using h3,by simpa using h4,?_⟩
 split at h
 ·rename_i h5
  split at h
  ·cases h
  ·rename_i h6
   simp at h5 h6
   exact .inl ⟨h5.1,by omega,by omega,by omega,by omega⟩
 ·split at h
  ·cases h
  ·split at h
   ·cases h
   ·rename_i h7
    refine .inr ⟨by simpa using h7,fun hk=>?_⟩
    rw[Gw,hk]at h
    simpa using h
theorem lF{n:Int}:lG n=true↔64≤n∧n≤127:=by simp[lG]
theorem uH{n:Int}:V9 n=true↔23≤n∧n≤4096:=by simp[V9]
theorem O8{u:jo}(h:mJ u=0):(1≤u.bL∧u.bL≤8)∧(0≤u.aX∧u.aX≤3200)∧(6≤u.Interval∧u.Interval≤3200)∧(0≤u.aO∧u.aO≤499)∧10≤u.Timeout∧u.Timeout≤3200:=by
 unfold mJ at h
 split at h
 ·cases h
 ·rename_i h1
  simp[oQ]at h1
  omega
theorem p2:(256:Int)^2=65536:=by decide
theorem p1:(256:Int)^1=256:=by decide
theorem QJ{s:aT}(h:vY s=0)(hp:0≤s.bU∧s.bU≤65535):Fit s:=by
 obtain⟨h1,_,_,h4,h5,h6⟩:=iQ h
 obtain⟨k,id,p,so,de,mt,mp,cr,re,u⟩:=s
 rcases kinds k with rfl | rfl | rfl | rfl | rfl | rfl | rfl | rfl | hk
 ·simp[j4,aH]at h5
  intro q hq
  simp[aY]at hq
  subst hq
  simp only[p2];omega
 ·simp[gY,aH,lF]at h6
  intro q hq
  simp[aY]at hq
  rcases hq with rfl | rfl <;> simp only[p2] <;> omega
 ·simp[gY,aH,lF]at h6
  intro q hq
  simp[aY]at hq
  rcases hq with rfl | rfl <;> simp only[p2] <;> omega
 ·have h7:mJ u=0:=by
   simp at h6
   exact h6.2
  obtain⟨g1,g2,g3,g4,g5⟩:=O8 h7
  intro q hq
  simp[aY]at hq
  rcases hq with rfl | rfl | rfl | rfl | rfl <;> simp only[p2,p1] <;> omega
 ·simp[j4,aH]at h5
  intro q hq
  simp[aY]at hq
  subst hq
  simp only[p2];omega
 ·simp[gY,aH,lF,uH]at h6
  intro q hq
  simp[aY]at hq
  rcases hq with rfl | rfl | rfl | rfl | rfl <;> simp only[p2] <;> simp only at hp <;> omega
 ·simp[j4,aH]at h5
  simp[gY,aH,lF,uH]at h6
  intro q hq
  simp[aY]at hq
  rcases hq with rfl | rfl | rfl | rfl | rfl <;> simp only[p2] <;> omega
 ·simp[gY,aH,lF,uH]at h6
  intro q hq
  simp[aY]at hq
  rcases hq with rfl | rfl <;> simp only[p2] <;> omega
 ·obtain⟨g1,g2,g3,g4,g5,g6,g7,g8⟩:=hk
  simp[aH,g1,g2,g3,g4,g5,g6,g7,g8]at h1
def eP(s:aT):List Int:=((aY s).map fun p=>xR p.1 p.2).flatten
def iq(s:aT):List Int:=[j3 s.Kind,j3 s.ID,j3 ((eP s).length:Int),0]++eP s
def tK(s:aT):List sV:=(aY s).map fun p=>⟨(p.1:Int),p.2⟩
theorem QI(s:aT):kr (tK s)=eP s:=by
 unfold kr tK eP
 rw[List.map_map]
 rfl
theorem MF(s:aT):∀p∈aY s,p.1=1∨p.1=2:=by
 intro p hp
 unfold aY at hp
 (repeat' split at hp) <;> simp at hp <;> (try rcases hp with rfl | rfl | rfl | rfl | rfl) <;> (try rcases hp with rfl | rfl) <;> (try subst hp) <;> simp
theorem Vg{s:aT}(h:Fit s):∀f∈tK s,zl f:=by
 intro f hf
 obtain⟨p,hp,rfl⟩:=List.mem_map.1 hf
 obtain⟨h1,h2⟩:=h p hp
 rcases MF s p hp with e | e
 ·rw[e]at h2
  refine⟨by simp[e],by simp[e],h1,?_,by simpa [e]using h2⟩
  simp only[p1]at h2;show p.2<_;omega
 ·rw[e]at h2
  refine⟨by simp[e],by simp[e],h1,?_,by simpa [e]using h2⟩
  simp only[p2]at h2;show p.2<_;omega
theorem O7(s:aT):(aY s).length≤5:=by
 unfold aY
 (repeat' split) <;> simp
theorem vK(s:aT):(eP s).length≤10:=by
 unfold eP aY
 (repeat' split) <;> simp[lL]
theorem QZ(s:aT)(h:Fit s)(hk:(aH s.Kind).Known=true):∃sz nu,qr FF s.Kind=some sz∧q5d FF s=some nu∧
 iter (fun t=>OL FF sz nu t.1 t.2.1 t.2.2) FF ([],0,0)=some (tK s,((eP s).length:Int)):=by
 have wid:∀{x:Int} {k:Nat},0≤x∧x<256^k→k=1∨k=2→wu64 x=x∧wu64 (aI x)=x:=by
  intro x k hx hk
  have:x<65536:=by rcases hk with rfl | rfl <;> simp only[p1,p2]at hx <;> omega
  rw[bN (by omega) (by omega),uy (by omega) (by omega)]
  exact⟨rfl,rfl⟩
 obtain⟨k,id,p,so,de,mt,mp,cr,re,⟨u1,u2,u3,u4,u5⟩⟩:=s
 rcases kinds k with rfl | rfl | rfl | rfl | rfl | rfl | rfl | rfl | hk'
 ·refine⟨_,_,rfl,rfl,?_⟩
  have e1:=(wid (h (2,re) (by simp[aY])) (.inr rfl)).1
  have:iter (fun t=>OL FF [2] [re] t.1 t.2.1 t.2.2) FF ([],0,0)=some ([⟨2,wu64 re⟩],2):=by kernel_rfl
  rw[e1]at this
  exact this
 ·refine⟨_,_,rfl,rfl,?_⟩
  have e1:=(wid (h (2,so) (by simp[aY])) (.inr rfl)).2
  have e2:=(wid (h (2,de) (by simp[aY])) (.inr rfl)).2
  have:iter (fun t=>OL FF [2,2] [aI so,aI de] t.1 t.2.1 t.2.2) FF ([],0,0)=some ([⟨2,wu64 (aI so)⟩,⟨2,wu64 (aI de)⟩],4):=by kernel_rfl
  rw[e1,e2]at this
  exact this
 ·refine⟨_,_,rfl,rfl,?_⟩
  have e1:=(wid (h (2,so) (by simp[aY])) (.inr rfl)).2
  have e2:=(wid (h (2,de) (by simp[aY])) (.inr rfl)).2
  have:iter (fun t=>OL FF [2,2] [aI so,aI de] t.1 t.2.1 t.2.2) FF ([],0,0)=some ([⟨2,wu64 (aI so)⟩,⟨2,wu64 (aI de)⟩],4):=by kernel_rfl
  rw[e1,e2]at this
  exact this
 ·refine⟨_,_,rfl,rfl,?_⟩
  have e1:=(wid (h (1,u1) (by simp[aY])) (.inl rfl)).1
  have e2:=(wid (h (2,u2) (by simp[aY])) (.inr rfl)).1
  have e3:=(wid (h (2,u3) (by simp[aY])) (.inr rfl)).1
  have e4:=(wid (h (2,u4) (by simp[aY])) (.inr rfl)).1
  have e5:=(wid (h (2,u5) (by simp[aY])) (.inr rfl)).1
  have:iter (fun t=>OL FF [1,2,2,2,2] [u1,u2,u3,u4,u5] t.1 t.2.1 t.2.2) FF ([],0,0)=some ([⟨1,wu64 u1⟩,⟨2,wu64 u2⟩,⟨2,wu64 u3⟩,⟨2,wu64 u4⟩,⟨2,wu64 u5⟩],9):=by kernel_rfl
  rw[e1,e2,e3,e4,e5]at this
  exact this
 ·refine⟨_,_,rfl,rfl,?_⟩
  have e1:=(wid (h (2,re) (by simp[aY])) (.inr rfl)).1
  have:iter (fun t=>OL FF [2] [re] t.1 t.2.1 t.2.2) FF ([],0,0)=some ([⟨2,wu64 re⟩],2):=by kernel_rfl
  rw[e1]at this
  exact this
 ·refine⟨_,_,rfl,rfl,?_⟩
  have e1:=(wid (h (2,p) (by simp[aY])) (.inr rfl)).2
  have e2:=(wid (h (2,so) (by simp[aY])) (.inr rfl)).2
  have e3:=(wid (h (2,mt) (by simp[aY])) (.inr rfl)).1
  have e4:=(wid (h (2,mp) (by simp[aY])) (.inr rfl)).1
  have e5:=(wid (h (2,cr) (by simp[aY])) (.inr rfl)).1
  have:iter (fun t=>OL FF [2,2,2,2,2] [aI p,aI so,mt,mp,cr] t.1 t.2.1 t.2.2) FF ([],0,0)=some ([⟨2,wu64 (aI p)⟩,⟨2,wu64 (aI so)⟩,⟨2,wu64 mt⟩,⟨2,wu64 mp⟩,⟨2,wu64 cr⟩],10):=by kernel_rfl
  rw[e1,e2,e3,e4,e5]at this
  exact this
 ·refine⟨_,_,rfl,rfl,?_⟩
  have e1:=(wid (h (2,so) (by simp[aY])) (.inr rfl)).2
  have e2:=(wid (h (2,mt) (by simp[aY])) (.inr rfl)).1
  have e3:=(wid (h (2,mp) (by simp[aY])) (.inr rfl)).1
  have e4:=(wid (h (2,cr) (by simp[aY])) (.inr rfl)).1
  have e5:=(wid (h (2,re) (by simp[aY])) (.inr rfl)).1
  have:iter (fun t=>OL FF [2,2,2,2,2] [aI so,mt,mp,cr,re] t.1 t.2.1 t.2.2) FF ([],0,0)=some ([⟨2,wu64 (aI so)⟩,⟨2,wu64 mt⟩,⟨2,wu64 mp⟩,⟨2,wu64 cr⟩,⟨2,wu64 re⟩],10):=by kernel_rfl
  rw[e1,e2,e3,e4,e5]at this
  exact this
 ·refine⟨_,_,rfl,rfl,?_⟩
  have e1:=(wid (h (2,so) (by simp[aY])) (.inr rfl)).2
  have e2:=(wid (h (2,cr) (by simp[aY])) (.inr rfl)).1
  have:iter (fun t=>OL FF [2,2] [aI so,cr] t.1 t.2.1 t.2.2) FF ([],0,0)=some ([⟨2,wu64 (aI so)⟩,⟨2,wu64 cr⟩],4):=by kernel_rfl
  rw[e1,e2]at this
  exact this
 ·obtain⟨g1,g2,g3,g4,g5,g6,g7,g8⟩:=hk'
  simp[aH,g1,g2,g3,g4,g5,g6,g7,g8]at hk
def FJ(s:aT):List Int×Int:=if vY s=0 then(iq s,0)else([],vY s)
theorem TJ(s:aT)(hp:0≤s.bU∧s.bU≤65535):q48 FF s=some (FJ s):=by
 unfold q48 FJ
 rw[CV FF s (by decide)]
 simp only[bs]
 by_cases h:vY s=0
 ·have hf:=QJ h hp
  obtain⟨sz,nu,h1,h2,h3⟩:=QZ s hf (iQ h).1
  rw[if_neg (by simp[h]),if_pos h,h1]
  simp only[bs]
  rw[h2]
  simp only[bs]
  rw[h3]
  simp only[bs,q6p]
  have hl:=O7 s
  rw[Li FF (tK s) (Vg hf) (by simp[tK];omega) (by simp[tK,FF];omega)]
  simp only[bs]
  rw[if_neg (by simp),QI]
  have hb:=vK s
  rw[AO FF _ _ (by decide) (by simp;omega)]
  rfl
 ·rw[if_pos (by simpa using h),if_neg h]
end Sg
end V
namespace V
namespace Sg
def gJ(k:Int):List Nat:=
 if k=1∨k=19 then [2]
 else if k=6∨k=7∨k=22 then [2,2]
 else if k=18 then [1,2,2,2,2]
 else [2,2,2,2,2]
def zs:aT:=⟨0,0,0,0,0,0,0,0,0,⟨0,0,0,0,0⟩⟩
def ks(k id:Int):aT:=⟨k,id,0,0,0,0,0,0,0,⟨0,0,0,0,0⟩⟩
def iN(b:List Int)(at_ k:Nat):Int:=num ((b.drop at_).take k)
def eu(k id:Int)(b:List Int):aT:=
 if k=1∨k=19 then⟨k,id,0,0,0,0,0,0,iN b 4 2,⟨0,0,0,0,0⟩⟩
 else if k=6∨k=7 then⟨k,id,0,iN b 4 2,iN b 6 2,0,0,0,0,⟨0,0,0,0,0⟩⟩
 else if k=18 then⟨k,id,0,0,0,0,0,0,0,⟨iN b 4 1,iN b 5 2,iN b 7 2,iN b 9 2,iN b 11 2⟩⟩
 else if k=20 then⟨k,id,iN b 4 2,iN b 6 2,0,iN b 8 2,iN b 10 2,iN b 12 2,0,⟨0,0,0,0,0⟩⟩
 else if k=21 then⟨k,id,0,iN b 4 2,0,iN b 6 2,iN b 8 2,iN b 10 2,iN b 12 2,⟨0,0,0,0,0⟩⟩
 else⟨k,id,0,iN b 4 2,0,0,0,iN b 6 2,0,⟨0,0,0,0,0⟩⟩
def j6(k id n:Int)(b:List Int):aT×Int:=
 if (aH k).Known=false then(zs,12)
 else if id=0 then(zs,5)
 else if n≠(fD (gJ k):Int)then(zs,2)
 else if b.length<4+fD (gJ k)then(zs,3)
 else if 4+fD (gJ k)<b.length then(zs,2)
 else if vY (eu k id b)≠0 then(zs,vY (eu k id b))
 else(eu k id b,0)
def pV:List Int→aT×Int
 | k::id::c::d::r=>j6 k id (c+256*d) (k::id::c::d::r)
 | _=>(zs,3)
theorem wS{b:List Int}(hb:∀x∈b,Byte x)(at_:Nat)(k:Nat)(hk:k=1∨k=2):0≤iN b at_ k∧iN b at_ k<65536:=by
 have hm:∀x∈(b.drop at_).take k,Byte x:=fun x hx=>hb x (List.mem_of_mem_drop (List.mem_of_mem_take hx))
 refine⟨num_nonneg hm,?_⟩
 have h1:=J5 hm
 have h2:((b.drop at_).take k).length≤2:=by simp;omega
 unfold iN
 generalize num ((b.drop at_).take k)=q at *
 generalize ((b.drop at_).take k).length=n at *
 rcases n with _ | _ | _ | n
 ·have:(256:Int)^0=1:=by decide
  rw[this]at h1;omega
 ·have:(256:Int)^(0+1)=256:=by decide
  rw[this]at h1;omega
 ·have:(256:Int)^(0+1+1)=65536:=by decide
  rw[this]at h1;omega
 ·omega
theorem GX{k:Int}(hk:(aH k).Known=true):qr FF k=some (iK (gJ k)):=by
 rcases kinds k with rfl | rfl | rfl | rfl | rfl | rfl | rfl | rfl | h
 any_goals rfl
 obtain⟨h1,h2,h3,h4,h5,h6,h7,h8⟩:=h
 simp[aH,h1,h2,h3,h4,h5,h6,h7,h8]at hk
theorem KT(k:Int):∀n∈gJ k,1≤n∧n≤8:=by
 unfold gJ
 (repeat' split) <;> decide
theorem Pg(k:Int):(gJ k).length≤5:=by
 unfold gJ
 (repeat' split) <;> decide
theorem GK(k:Int):fD (gJ k)≤10:=by
 unfold gJ
 (repeat' split) <;> decide
theorem Rh(k:Int)(hk:(aH k).Known=true):iter (fun s=>q5m FF (iK (gJ k)) s.1 s.2) FF (0,0)=some (fD (gJ k):Int):=by
 rcases kinds k with rfl | rfl | rfl | rfl | rfl | rfl | rfl | rfl | h
 ·kernel_rfl
 ·kernel_rfl
 ·kernel_rfl
 ·kernel_rfl
 ·kernel_rfl
 ·kernel_rfl
 ·kernel_rfl
 ·kernel_rfl
 obtain⟨h1,h2,h3,h4,h5,h6,h7,h8⟩:=h
 simp[aH,h1,h2,h3,h4,h5,h6,h7,h8]at hk
theorem fl1(id x0:Int)(h0:0≤x0∧x0<65536):qg FF (ks 1 id) [x0]=some ⟨1,id,0,0,0,0,0,0,x0,⟨0,0,0,0,0⟩⟩:=by
 have h:qg FF (ks 1 id) [x0]=some ⟨1,id,0,0,0,0,0,0,aI x0,⟨0,0,0,0,0⟩⟩:=by kernel_rfl
 rw[bN (by omega) (by omega)]at h
 exact h
theorem fl6(id x0 x1:Int)(h0:0≤x0∧x0<65536)(h1:0≤x1∧x1<65536):qg FF (ks 6 id) [x0,x1]=some ⟨6,id,0,x0,x1,0,0,0,0,⟨0,0,0,0,0⟩⟩:=by
 have h:qg FF (ks 6 id) [x0,x1]=some ⟨6,id,0,jV x0,jV x1,0,0,0,0,⟨0,0,0,0,0⟩⟩:=by kernel_rfl
 rw[iW h0.1 (by omega),iW h1.1 (by omega)]at h
 exact h
theorem fl7(id x0 x1:Int)(h0:0≤x0∧x0<65536)(h1:0≤x1∧x1<65536):qg FF (ks 7 id) [x0,x1]=some ⟨7,id,0,x0,x1,0,0,0,0,⟨0,0,0,0,0⟩⟩:=by
 have h:qg FF (ks 7 id) [x0,x1]=some ⟨7,id,0,jV x0,jV x1,0,0,0,0,⟨0,0,0,0,0⟩⟩:=by kernel_rfl
 rw[iW h0.1 (by omega),iW h1.1 (by omega)]at h
 exact h
theorem fl18(id x0 x1 x2 x3 x4:Int)(h0:0≤x0∧x0<65536)(h1:0≤x1∧x1<65536)(h2:0≤x2∧x2<65536)(h3:0≤x3∧x3<65536)(h4:0≤x4∧x4<65536):qg FF (ks 18 id) [x0,x1,x2,x3,x4]=some ⟨18,id,0,0,0,0,0,0,0,⟨x0,x1,x2,x3,x4⟩⟩:=by
 have h:qg FF (ks 18 id) [x0,x1,x2,x3,x4]=some ⟨18,id,0,0,0,0,0,0,0,⟨aI x0,aI x1,aI x2,aI x3,aI x4⟩⟩:=by kernel_rfl
 rw[bN (by omega) (by omega),bN (by omega) (by omega),bN (by omega) (by omega),bN (by omega) (by omega),bN (by omega) (by omega)]at h
 exact h
theorem fl19(id x0:Int)(h0:0≤x0∧x0<65536):qg FF (ks 19 id) [x0]=some ⟨19,id,0,0,0,0,0,0,x0,⟨0,0,0,0,0⟩⟩:=by
 have h:qg FF (ks 19 id) [x0]=some ⟨19,id,0,0,0,0,0,0,aI x0,⟨0,0,0,0,0⟩⟩:=by kernel_rfl
 rw[bN (by omega) (by omega)]at h
 exact h
theorem fl20(id x0 x1 x2 x3 x4:Int)(h0:0≤x0∧x0<65536)(h1:0≤x1∧x1<65536)(h2:0≤x2∧x2<65536)(h3:0≤x3∧x3<65536)(h4:0≤x4∧x4<65536):qg FF (ks 20 id) [x0,x1,x2,x3,x4]=some ⟨20,id,x0,x1,0,x2,x3,x4,0,⟨0,0,0,0,0⟩⟩:=by
 have h:qg FF (ks 20 id) [x0,x1,x2,x3,x4]=some ⟨20,id,jV x0,jV x1,0,aI x2,aI x3,aI x4,0,⟨0,0,0,0,0⟩⟩:=by kernel_rfl
 rw[iW h0.1 (by omega),iW h1.1 (by omega),bN (by omega) (by omega),bN (by omega) (by omega),bN (by omega) (by omega)]at h
 exact h
theorem fl21(id x0 x1 x2 x3 x4:Int)(h0:0≤x0∧x0<65536)(h1:0≤x1∧x1<65536)(h2:0≤x2∧x2<65536)(h3:0≤x3∧x3<65536)(h4:0≤x4∧x4<65536):qg FF (ks 21 id) [x0,x1,x2,x3,x4]=some ⟨21,id,0,x0,0,x1,x2,x3,x4,⟨0,0,0,0,0⟩⟩:=by
 have h:qg FF (ks 21 id) [x0,x1,x2,x3,x4]=some ⟨21,id,0,jV x0,0,aI x1,aI x2,aI x3,aI x4,⟨0,0,0,0,0⟩⟩:=by kernel_rfl
 rw[iW h0.1 (by omega),bN (by omega) (by omega),bN (by omega) (by omega),bN (by omega) (by omega),bN (by omega) (by omega)]at h
 exact h
theorem fl22(id x0 x1:Int)(h0:0≤x0∧x0<65536)(h1:0≤x1∧x1<65536):qg FF (ks 22 id) [x0,x1]=some ⟨22,id,0,x0,0,0,0,x1,0,⟨0,0,0,0,0⟩⟩:=by
 have h:qg FF (ks 22 id) [x0,x1]=some ⟨22,id,0,jV x0,0,0,0,aI x1,0,⟨0,0,0,0,0⟩⟩:=by kernel_rfl
 rw[iW h0.1 (by omega),bN (by omega) (by omega)]at h
 exact h
theorem N9{b:List Int}(hb:∀x∈b,Byte x)(k id:Int)(hk:(aH k).Known=true):qg FF (ks k id) (fO (b.drop 4) (gJ k))=some (eu k id b):=by
 have r2:=fun a=>wS hb a 2 (.inr rfl)
 have r1:=wS hb 4 1 (.inl rfl)
 rcases kinds k with rfl | rfl | rfl | rfl | rfl | rfl | rfl | rfl | h
 ·rw[show fO (b.drop 4) (gJ 1)=[iN b 4 2]from by simp[fO,gJ,iN]]
  exact fl1 id _ (r2 4)
 ·rw[show fO (b.drop 4) (gJ 6)=[iN b 4 2,iN b 6 2]from by simp[fO,gJ,iN]]
  exact fl6 id _ _ (r2 4) (r2 6)
 ·rw[show fO (b.drop 4) (gJ 7)=[iN b 4 2,iN b 6 2]from by simp[fO,gJ,iN]]
  exact fl7 id _ _ (r2 4) (r2 6)
 ·rw[show fO (b.drop 4) (gJ 18)=[iN b 4 1,iN b 5 2,iN b 7 2,iN b 9 2,iN b 11 2]from by simp[fO,gJ,iN]]
  exact fl18 id _ _ _ _ _ r1 (r2 5) (r2 7) (r2 9) (r2 11)
 ·rw[show fO (b.drop 4) (gJ 19)=[iN b 4 2]from by simp[fO,gJ,iN]]
  exact fl19 id _ (r2 4)
 ·rw[show fO (b.drop 4) (gJ 20)=[iN b 4 2,iN b 6 2,iN b 8 2,iN b 10 2,iN b 12 2]from by simp[fO,gJ,iN]]
  exact fl20 id _ _ _ _ _ (r2 4) (r2 6) (r2 8) (r2 10) (r2 12)
 ·rw[show fO (b.drop 4) (gJ 21)=[iN b 4 2,iN b 6 2,iN b 8 2,iN b 10 2,iN b 12 2]from by simp[fO,gJ,iN]]
  exact fl21 id _ _ _ _ _ (r2 4) (r2 6) (r2 8) (r2 10) (r2 12)
 ·rw[show fO (b.drop 4) (gJ 22)=[iN b 4 2,iN b 6 2]from by simp[fO,gJ,iN]]
  exact fl22 id _ _ (r2 4) (r2 6)
 ·obtain⟨h1,h2,h3,h4,h5,h6,h7,h8⟩:=h
  simp[aH,h1,h2,h3,h4,h5,h6,h7,h8]at hk
theorem FD{x:Int}(hx:Byte x):lC .i64 (aI x) 8=x*256:=by
 obtain⟨h0,h1⟩:=hx
 unfold lC
 rw[wrap_i64,bN (x:=x) (by omega) (by omega),show(2:Int)^8=256 by decide,bN (by omega) (by omega)]
theorem Fb{x y:Int}(hx:Byte x)(hy:Byte y):uo .i64 (aI x) (y*256)=x+256*y:=by
 obtain⟨h0,h1⟩:=hx
 obtain⟨g0,g1⟩:=hy
 rw[bN (by omega) (by omega)]
 obtain⟨x,rfl⟩:=Int.eq_ofNat_of_zero_le h0
 obtain⟨y,rfl⟩:=Int.eq_ofNat_of_zero_le g0
 unfold uo
 have e:(BitVec.ofInt IntKind.i64.bits (x:Int) ||| BitVec.ofInt IntKind.i64.bits ((y:Int)*256)).toNat=x+y*256:=by
  rw[show((y:Int)*256)=((y*256:Nat):Int)from by rw[Int.natCast_mul];rfl,BitVec.toNat_or]
  show(BitVec.ofInt 64 (x:Int)).toNat ||| (BitVec.ofInt 64 ((y*256:Nat):Int)).toNat=_
  rw[BitVec.toNat_ofInt,BitVec.toNat_ofInt]
  rw[show(((x:Nat):Int)%((2^64:Nat):Int)).toNat=x from by rw[← Int.natCast_emod,Int.toNat_natCast,Nat.mod_eq_of_lt (by omega)]]
  rw[show(((y*256:Nat):Int)%((2^64:Nat):Int)).toNat=y*256 from by rw[← Int.natCast_emod,Int.toNat_natCast,Nat.mod_eq_of_lt (by omega)]]
  exact Ar x y 8 (by omega)
 rw[e,wrap_i64,bN (by omega) (by omega)]
 omega
theorem TK(b:List Int)(hb:∀x∈b,Byte x)(hl:b.length≤1000000):q3m FF b=some (pV b):=by
 match b,hb,hl with
 | [],_,_=>rfl
 | [_],_,_=>rfl
 | [_,_],_,_=>rfl
 | [_,_,_],_,_=>rfl
 | k::id::c::d::r,hb,hl=>
   have hk:=hb k (by simp)
   have hid:=hb id (by simp)
   have hc:=hb c (by simp)
   have hd:=hb d (by simp)
   have h5:¬ (len (k::id::c::d::r)<4):=by simp only[len,List.length_cons];omega
   have i0:idx (k::id::c::d::r) 0=some k:=(dN _ 0).trans rfl
   have i1:idx (k::id::c::d::r) 1=some id:=(dN _ 1).trans rfl
   have i2:idx (k::id::c::d::r) 2=some c:=(dN _ 2).trans rfl
   have i3:idx (k::id::c::d::r) 3=some d:=(dN _ 3).trans rfl
   unfold q3m
   rw[if_neg (fun h=>h5 (of_decide_eq_true h)),i0,bs,i1,bs]
   show q64 FF (k::id::c::d::r) ⟨aI k,aI id,0,0,0,0,0,0,0,⟨0,0,0,0,0⟩⟩=_
   rw[bN (by have:=hk.1;omega) (by have:=hk.2;omega),bN (by have:=hid.1;omega) (by have:=hid.2;omega)]
   unfold q64
   rw[i2,bs,i3,bs,FD hd]
   show q63 FF (k::id::c::d::r) (ks k id) (uo .i64 (aI c) (d*256))=_
   rw[Fb hc hd]
   show _=some (j6 k id (c+256*d) (k::id::c::d::r))
   generalize hB:k::id::c::d::r=B at *
   generalize c+256*d=n
   have hBl:4≤B.length:=by rw[← hB];simp
   clear hB i0 i1 i2 i3 h5
   unfold q63 j6
   show(qr FF k).bind _=_
   by_cases hkn:(aH k).Known=true
   ·rw[GX hkn,bs,Rh k hkn,bs]
    unfold q62
    rw[AL]
    show(some (aH k).Known).bind _=_
    rw[hkn,bs,if_neg (show ¬ ((!true)=true) by decide),if_neg (show ¬ (true=false) by decide)]
    show(if (id==0)=true then _ else _)=_
    by_cases h0:id=0
    ·rw[if_pos (by simp[h0]),if_pos h0];rfl
    rw[if_neg (by simp[h0]),if_neg h0]
    by_cases hn:n=(fD (gJ k):Int)
    ·rw[if_neg (by simp[hn]),if_neg (show ¬ (n≠(fD (gJ k):Int))from not_not_intro hn)]
     have hs:=kG B 4 B.length hBl (Nat.le_refl _)
     rw[List.take_length]at hs
     rw[show sub B 4 (len B)=some (B.drop 4)from hs,bs]
     show(qr FF k).bind _=_
     rw[GX hkn,bs]
     have hlen:=Pg k
     have hsum:=GK k
     have hbd:∀x∈B.drop 4,Byte x:=fun x hx=>hb x (List.mem_of_mem_drop hx)
     by_cases hsh:B.length<4+fD (gJ k)
     ·rw[JG FF (B.drop 4) (gJ k) (KT k) (by omega) (by unfold FF;omega) (by simp;omega),if_pos hsh]
      rfl
     ·rw[Tw FF (B.drop 4) (gJ k) (KT k) (by omega) (by unfold FF;omega) hbd (by simp;omega) (by simp;omega),if_neg hsh,bs]
      unfold q75
      rw[if_neg (by simp)]
      by_cases hlo:4+fD (gJ k)<B.length
      ·rw[if_pos (by simp[len];omega),if_pos hlo];rfl
      ·rw[if_neg (by simp[len];omega),if_neg hlo]
       show(qg FF (ks k id) (fO (B.drop 4) (gJ k))).bind _=_
       rw[N9 hb k id hkn,bs,CV FF _ (by decide),bs]
       by_cases hch:vY (eu k id B)=0
       ·rw[if_neg (by simp[hch]),if_neg (show ¬ (vY (eu k id B)≠0)from not_not_intro hch)]
       ·rw[if_pos (by simp[hch]),if_pos hch];rfl
    ·rw[if_pos (by simpa using hn),if_pos hn];rfl
   ·have hk0:(aH k).Known=false:=by simpa using hkn
    have:∃sz n',qr FF k=some sz∧iter (fun s=>q5m FF sz s.1 s.2) FF (0,0)=some n':=by
     rcases kinds k with rfl | rfl | rfl | rfl | rfl | rfl | rfl | rfl | h
     any_goals cases hk0
     obtain⟨h1,h2,h3,h4,h5,h6,h7,h8⟩:=h
     refine⟨[2,2,2,2,2],10,?_,by kernel_rfl⟩
     simp[qr,q5x,q5c,h1,h2,h3,h4,h5,h6,h7,h8]
    obtain⟨sz,n',e1,e2⟩:=this
    rw[e1,bs,e2,bs]
    unfold q62
    rw[AL]
    show(some (aH k).Known).bind _=_
    rw[hk0,bs,if_pos (show(!false)=true from rfl),if_pos (show false=false from rfl)]
    rfl
end Sg
end V
namespace V
namespace Sg
theorem Iq(x:Int):xR 2 x=[x%256,x/256%256]:=rfl
theorem leb1(x:Int):xR 1 x=[x%256]:=rfl
theorem mE{x:Int}(h:0≤x∧x<256^2):num [x%256,x/256%256]=x:=by
 rw[p2]at h
 simp only[num];omega
theorem num1{x:Int}(h:0≤x∧x<256^1):num [x%256]=x:=by
 rw[p1]at h
 simp only[num];omega
theorem kM(u:jo):wu u=true↔u=⟨0,0,0,0,0⟩:=by
 obtain⟨a,b,c,d,e⟩:=u
 simp[wu]
theorem X3{x:Int}(h:0≤x∧x<256):j3 x=x:=EF h.1 h.2
theorem QL{s:aT}(h:vY s=0)(hf:Fit s):eu s.Kind s.ID (iq s)=s∧(eP s).length=fD (gJ s.Kind):=by
 obtain⟨h1,_,_,h4,_,_⟩:=iQ h
 clear h
 obtain⟨k,id,p,so,de,mt,mp,cr,re,u⟩:=s
 rcases kinds k with rfl | rfl | rfl | rfl | rfl | rfl | rfl | rfl | hk
 ·have e0:=mE (hf (2,re) (by simp[aY]))
  simp[eU,aH,kM]at h4
  refine⟨?_,rfl⟩
  simp[eu,iq,eP,aY,iN,Iq,e0,h4]
 ·have e0:=mE (hf (2,so) (by simp[aY]))
  have e1:=mE (hf (2,de) (by simp[aY]))
  simp[eU,aH,kM]at h4
  refine⟨?_,rfl⟩
  simp[eu,iq,eP,aY,iN,Iq,e0,e1,h4]
 ·have e0:=mE (hf (2,so) (by simp[aY]))
  have e1:=mE (hf (2,de) (by simp[aY]))
  simp[eU,aH,kM]at h4
  refine⟨?_,rfl⟩
  simp[eu,iq,eP,aY,iN,Iq,e0,e1,h4]
 ·obtain⟨u1,u2,u3,u4,u5⟩:=u
  have e0:=num1 (hf (1,u1) (by simp[aY]))
  have e1:=mE (hf (2,u2) (by simp[aY]))
  have e2:=mE (hf (2,u3) (by simp[aY]))
  have e3:=mE (hf (2,u4) (by simp[aY]))
  have e4:=mE (hf (2,u5) (by simp[aY]))
  simp[eU,aH,kM]at h4
  refine⟨?_,rfl⟩
  simp[eu,iq,eP,aY,iN,Iq,leb1,e0,e1,e2,e3,e4,h4]
 ·have e0:=mE (hf (2,re) (by simp[aY]))
  simp[eU,aH,kM]at h4
  refine⟨?_,rfl⟩
  simp[eu,iq,eP,aY,iN,Iq,e0,h4]
 ·have e0:=mE (hf (2,p) (by simp[aY]))
  have e1:=mE (hf (2,so) (by simp[aY]))
  have e2:=mE (hf (2,mt) (by simp[aY]))
  have e3:=mE (hf (2,mp) (by simp[aY]))
  have e4:=mE (hf (2,cr) (by simp[aY]))
  simp[eU,aH,kM]at h4
  refine⟨?_,rfl⟩
  simp[eu,iq,eP,aY,iN,Iq,e0,e1,e2,e3,e4,h4]
 ·have e0:=mE (hf (2,so) (by simp[aY]))
  have e1:=mE (hf (2,mt) (by simp[aY]))
  have e2:=mE (hf (2,mp) (by simp[aY]))
  have e3:=mE (hf (2,cr) (by simp[aY]))
  have e4:=mE (hf (2,re) (by simp[aY]))
  simp[eU,aH,kM]at h4
  refine⟨?_,rfl⟩
  simp[eu,iq,eP,aY,iN,Iq,e0,e1,e2,e3,e4,h4]
 ·have e0:=mE (hf (2,so) (by simp[aY]))
  have e1:=mE (hf (2,cr) (by simp[aY]))
  simp[eU,aH,kM]at h4
  refine⟨?_,rfl⟩
  simp[eu,iq,eP,aY,iN,Iq,e0,e1,h4]
 ·obtain⟨g1,g2,g3,g4,g5,g6,g7,g8⟩:=hk
  simp[aH,g1,g2,g3,g4,g5,g6,g7,g8]at h1
theorem wU{k:Int}(hk:(aH k).Known=true):0≤k∧k<256:=by
 rcases kinds k with rfl | rfl | rfl | rfl | rfl | rfl | rfl | rfl | h
 any_goals decide
 obtain⟨g1,g2,g3,g4,g5,g6,g7,g8⟩:=h
 simp[aH,g1,g2,g3,g4,g5,g6,g7,g8]at hk
theorem Ku{s:aT}(h:vY s=0):iq s=s.Kind::s.ID::((eP s).length:Int)::0::eP s:=by
 obtain⟨h1,h2,h3,_⟩:=iQ h
 have:=vK s
 unfold iq
 rw[X3 (wU h1),X3 (by omega),X3 (by omega)]
 rfl
theorem ze{s:aT}(h:vY s=0)(hp:0≤s.bU∧s.bU≤65535):pV (iq s)=(s,0):=by
 obtain⟨e1,e2⟩:=QL h (QJ h hp)
 obtain⟨h1,h2,h3,_⟩:=iQ h
 rw[Ku h]at e1 ⊢
 show j6 s.Kind s.ID (((eP s).length:Int)+256*0) _=_
 unfold j6
 rw[e1,if_neg (by simp[h1]),if_neg (show ¬ (s.ID=0) by omega),if_neg (show ¬ (((eP s).length:Int)+256*0≠(fD (gJ s.Kind):Int))from not_not_intro (by rw[e2];omega)),
  if_neg (by simp only[List.length_cons];omega),if_neg (by simp only[List.length_cons];omega),if_neg (not_not_intro h)]
theorem Oc{s:aT}(h:vY s=0):∀x∈iq s,Byte x:=by
 obtain⟨h1,h2,h3,_⟩:=iQ h
 have hb:=vK s
 rw[Ku h]
 intro x hx
 have hk:=wU h1
 simp only[List.mem_cons]at hx
 rcases hx with rfl | rfl | rfl | rfl | hx
 ·exact hk
 ·exact⟨by omega,by omega⟩
 ·exact⟨by omega,by omega⟩
 ·exact⟨by decide,by decide⟩
 ·unfold eP at hx
  obtain⟨l,hl,hx⟩:=List.mem_flatten.1 hx
  obtain⟨q,_,rfl⟩:=List.mem_map.1 hl
  exact vv _ _ x hx
theorem dR{x y:Int}(hx:Byte x)(hy:Byte y):xR 2 (num [x,y])=[x,y]:=by
 have:=Fu (l:=[x,y]) (by simp[hx,hy])
 exact this
theorem Rz{x:Int}(hx:Byte x):xR 1 (num [x])=[x]:=by
 have:=Fu (l:=[x]) (by simp[hx])
 exact this
theorem Ol(k id c d:Int)(r:List Int)(hb:∀x∈r,Byte x)(hk:(aH k).Known=true)(hr:r.length=fD (gJ k)):eP (eu k id (k::id::c::d::r))=r:=by
 rcases kinds k with rfl | rfl | rfl | rfl | rfl | rfl | rfl | rfl | h
 ·match r,hr,hb with
  | [x0,x1],_,hb=>
    have e0:=dR (hb x0 (by simp)) (hb x1 (by simp))
    simp[eu,eP,aY,iN,e0]
 ·match r,hr,hb with
  | [x0,x1,x2,x3],_,hb=>
    have e0:=dR (hb x0 (by simp)) (hb x1 (by simp))
    have e1:=dR (hb x2 (by simp)) (hb x3 (by simp))
    simp[eu,eP,aY,iN,e0,e1]
 ·match r,hr,hb with
  | [x0,x1,x2,x3],_,hb=>
    have e0:=dR (hb x0 (by simp)) (hb x1 (by simp))
    have e1:=dR (hb x2 (by simp)) (hb x3 (by simp))
    simp[eu,eP,aY,iN,e0,e1]
 ·match r,hr,hb with
  | [x0,x1,x2,x3,x4,x5,x6,x7,x8],_,hb=>
    have e0:=Rz (hb x0 (by simp))
    have e1:=dR (hb x1 (by simp)) (hb x2 (by simp))
    have e2:=dR (hb x3 (by simp)) (hb x4 (by simp))
    have e3:=dR (hb x5 (by simp)) (hb x6 (by simp))
    have e4:=dR (hb x7 (by simp)) (hb x8 (by simp))
    simp[eu,eP,aY,iN,e0,e1,e2,e3,e4]
 ·match r,hr,hb with
  | [x0,x1],_,hb=>
    have e0:=dR (hb x0 (by simp)) (hb x1 (by simp))
    simp[eu,eP,aY,iN,e0]
 ·match r,hr,hb with
  | [x0,x1,x2,x3,x4,x5,x6,x7,x8,x9],_,hb=>
    have e0:=dR (hb x0 (by simp)) (hb x1 (by simp))
    have e1:=dR (hb x2 (by simp)) (hb x3 (by simp))
    have e2:=dR (hb x4 (by simp)) (hb x5 (by simp))
    have e3:=dR (hb x6 (by simp)) (hb x7 (by simp))
    have e4:=dR (hb x8 (by simp)) (hb x9 (by simp))
    simp[eu,eP,aY,iN,e0,e1,e2,e3,e4]
 ·match r,hr,hb with
  | [x0,x1,x2,x3,x4,x5,x6,x7,x8,x9],_,hb=>
    have e0:=dR (hb x0 (by simp)) (hb x1 (by simp))
    have e1:=dR (hb x2 (by simp)) (hb x3 (by simp))
    have e2:=dR (hb x4 (by simp)) (hb x5 (by simp))
    have e3:=dR (hb x6 (by simp)) (hb x7 (by simp))
    have e4:=dR (hb x8 (by simp)) (hb x9 (by simp))
    simp[eu,eP,aY,iN,e0,e1,e2,e3,e4]
 ·match r,hr,hb with
  | [x0,x1,x2,x3],_,hb=>
    have e0:=dR (hb x0 (by simp)) (hb x1 (by simp))
    have e1:=dR (hb x2 (by simp)) (hb x3 (by simp))
    simp[eu,eP,aY,iN,e0,e1]
 ·obtain⟨g1,g2,g3,g4,g5,g6,g7,g8⟩:=h
  simp[aH,g1,g2,g3,g4,g5,g6,g7,g8]at hk
theorem Oa(k id:Int)(b:List Int):(eu k id b).Kind=k∧(eu k id b).ID=id:=by
 unfold eu
 (repeat' split) <;> exact⟨rfl,rfl⟩
theorem QK{b:List Int}(hb:∀x∈b,Byte x)(k id:Int):0≤(eu k id b).bU∧(eu k id b).bU≤65535:=by
 have r2:=wS hb 4 2 (.inr rfl)
 unfold eu
 (repeat' split) <;> first | exact⟨Int.le_refl 0,(by decide:(0:Int)≤65535)⟩ | exact⟨r2.1,by show iN b 4 2≤_;omega⟩
theorem Oe(b:List Int)(hb:∀x∈b,Byte x):((pV b).1=zs∧(pV b).2≠0)∨((pV b).2=0∧vY (pV b).1=0∧(0≤(pV b).1.bU∧(pV b).1.bU≤65535)∧iq (pV b).1=b):=by
 match b,hb with
 | [],_=>exact .inl ⟨rfl,show(3:Int)≠0 by decide⟩
 | [_],_=>exact .inl ⟨rfl,show(3:Int)≠0 by decide⟩
 | [_,_],_=>exact .inl ⟨rfl,show(3:Int)≠0 by decide⟩
 | [_,_,_],_=>exact .inl ⟨rfl,show(3:Int)≠0 by decide⟩
 | k::id::c::d::r,hb=>
   show((j6 k id (c+256*d) (k::id::c::d::r)).1=zs∧(j6 k id (c+256*d) (k::id::c::d::r)).2≠0)∨((j6 k id (c+256*d) (k::id::c::d::r)).2=0∧vY (j6 k id (c+256*d) (k::id::c::d::r)).1=0∧(0≤(j6 k id (c+256*d) (k::id::c::d::r)).1.bU∧(j6 k id (c+256*d) (k::id::c::d::r)).1.bU≤65535)∧iq (j6 k id (c+256*d) (k::id::c::d::r)).1=k::id::c::d::r)
   have hc:=hb c (by simp)
   have hd:=hb d (by simp)
   have hbr:∀x∈r,Byte x:=fun x hx=>hb x (by simp[hx])
   have hps:=QK hb k id
   have hfh:=Oa k id (k::id::c::d::r)
   have hbf:=fun hk hr=>Ol k id c d r hbr hk hr
   have hlen:(k::id::c::d::r).length=4+r.length:=by simp only[List.length_cons];omega
   have hsum:=GK k
   unfold j6
   generalize hS:eu k id (k::id::c::d::r)=S at *
   rw[hlen]
   by_cases h1:(aH k).Known=false
   ·rw[if_pos h1];exact .inl ⟨rfl,show(12:Int)≠0 by decide⟩
   rw[if_neg h1]
   by_cases h2:id=0
   ·rw[if_pos h2];exact .inl ⟨rfl,show(5:Int)≠0 by decide⟩
   rw[if_neg h2]
   by_cases h3:c+256*d=(fD (gJ k):Int)
   ·rw[if_neg (not_not_intro h3)]
    by_cases h4:4+r.length<4+fD (gJ k)
    ·rw[if_pos h4];exact .inl ⟨rfl,show(3:Int)≠0 by decide⟩
    rw[if_neg h4]
    by_cases h5:4+fD (gJ k)<4+r.length
    ·rw[if_pos h5];exact .inl ⟨rfl,show(2:Int)≠0 by decide⟩
    rw[if_neg h5]
    by_cases h6:vY S=0
    ·rw[if_neg (not_not_intro h6)]
     refine .inr ⟨rfl,h6,hps,?_⟩
     show iq S=_
     have hr:r.length=fD (gJ k):=by omega
     have hd0:d=0:=by have:=hc.1;have:=hc.2;have:=hd.1;omega
     rw[Ku h6,hfh.1,hfh.2,hbf (by simpa using h1) hr,hd0,show((r.length:Nat):Int)=c from by omega]
    ·rw[if_pos h6]
     exact .inl ⟨rfl,h6⟩
   ·rw[if_pos h3];exact .inl ⟨rfl,show(2:Int)≠0 by decide⟩
end Sg
end V
namespace V
namespace Fr
theorem dt{p:Prop} [Decidable p](h:p):decide p=true:=decide_eq_true h
theorem df{p:Prop} [Decidable p](h:¬ p):¬ decide p=true:=fun e=>h (of_decide_eq_true e)
structure FOk(f:bM):Prop where
 c0:0≤f.aU
 c1:f.aU<65536
def bytesOf(f:bM):List Int:=xR 2 f.Payload.length++(xR 2 f.aU++f.Payload)
def enc(f:bM):List Int×Int:=
 if f.aU=0 then([],1)else if 65531<f.Payload.length then([],4)else(bytesOf f,0)
theorem ZT{f:bM}(h:FOk f):q4e FF f=some (enc f):=by
 obtain⟨c0,c1⟩:=h
 unfold q4e enc
 by_cases h0:f.aU=0
 ·rw[if_pos (by simpa using h0),if_pos h0]
 rw[if_neg (by simpa using h0),if_neg h0]
 by_cases h1:65531<f.Payload.length
 ·rw[if_pos (dt (show len f.Payload>65531 from by rw[lN];omega)),if_pos h1]
 rw[if_neg (df (show ¬ len f.Payload>65531 from by rw[lN];omega)),if_neg h1]
 have e1:wu64 (len f.Payload)=f.Payload.length:=uy (by simp[len]) (by simp[len];omega)
 have e2:wu64 f.aU=f.aU:=uy (by omega) (by omega)
 rw[e1,e2,Li FF [⟨2,f.Payload.length⟩,⟨2,f.aU⟩] (fun g hg=>by
  simp only[List.mem_cons,List.not_mem_nil,or_false]at hg
  rcases hg with rfl | rfl
  ·exact⟨by show(1:Int)≤2;decide,by show(2:Int)≤8;decide,by simp only;omega,by simp only;omega,by show(f.Payload.length:Int)<256^2;rw[show(256:Int)^2=65536 from by decide];omega⟩
  ·exact⟨by show(1:Int)≤2;decide,by show(2:Int)≤8;decide,by simp only;omega,by simp only;omega,by show f.aU<256^2;rw[show(256:Int)^2=65536 from by decide];omega⟩) (by simp) (by unfold FF;simp)]
 simp only[bs]
 have e3:kr [⟨2,f.Payload.length⟩,⟨2,f.aU⟩]=xR 2 f.Payload.length++xR 2 f.aU:=by simp[kr]
 rw[if_neg (by simp),e3,AO FF _ _ (by unfold FF;omega) (by simp[lL];omega)]
 simp[bytesOf]
theorem FD{x:Int}(hx:Byte x):lC .i64 (aI x) 8=x*256:=by
 obtain⟨h0,h1⟩:=hx
 unfold lC
 rw[wrap_i64,bN (x:=x) (by omega) (by omega),show(2:Int)^8=256 by decide,bN (by omega) (by omega)]
theorem NT{x:Int}(hx:Byte x):lC .u16 (jV x) 8=x*256:=by
 obtain⟨h0,h1⟩:=hx
 unfold lC
 rw[wrap_u16,iW (x:=x) (by omega) (by omega),show(2:Int)^8=256 by decide,iW (by omega) (by omega)]
theorem xP(a b:Nat)(ha:a<256):a ||| (b*256)=a+b*256:=by
 have h:=Nat.shiftLeft_add_eq_or_of_lt (i:=8) (show a<2^8 by omega) b
 rw[Nat.shiftLeft_eq]at h
 rw[Nat.or_comm,show(256:Nat)=2^8 from rfl,← h,Nat.add_comm]
theorem Fb{x y:Int}(hx:Byte x)(hy:Byte y):uo .i64 (aI x) (y*256)=x+256*y:=by
 obtain⟨h0,h1⟩:=hx
 obtain⟨g0,g1⟩:=hy
 rw[bN (by omega) (by omega)]
 obtain⟨x,rfl⟩:=Int.eq_ofNat_of_zero_le h0
 obtain⟨y,rfl⟩:=Int.eq_ofNat_of_zero_le g0
 unfold uo
 have e:(BitVec.ofInt IntKind.i64.bits (x:Int) ||| BitVec.ofInt IntKind.i64.bits ((y:Int)*256)).toNat=x+y*256:=by
  rw[show((y:Int)*256)=((y*256:Nat):Int)from by rw[Int.natCast_mul];rfl,BitVec.toNat_or]
  show(BitVec.ofInt 64 (x:Int)).toNat ||| (BitVec.ofInt 64 ((y*256:Nat):Int)).toNat=_
  rw[BitVec.toNat_ofInt,BitVec.toNat_ofInt]
  rw[show(((x:Nat):Int)%((2^64:Nat):Int)).toNat=x from by rw[← Int.natCast_emod,Int.toNat_natCast,Nat.mod_eq_of_lt (by omega)]]
  rw[show(((y*256:Nat):Int)%((2^64:Nat):Int)).toNat=y*256 from by rw[← Int.natCast_emod,Int.toNat_natCast,Nat.mod_eq_of_lt (by omega)]]
  exact xP x y (by omega)
 rw[e,wrap_i64,bN (by omega) (by omega)]
 omega
theorem Nt{x y:Int}(hx:Byte x)(hy:Byte y):uo .u16 (jV x) (y*256)=x+256*y:=by
 obtain⟨h0,h1⟩:=hx
 obtain⟨g0,g1⟩:=hy
 rw[iW (by omega) (by omega)]
 obtain⟨x,rfl⟩:=Int.eq_ofNat_of_zero_le h0
 obtain⟨y,rfl⟩:=Int.eq_ofNat_of_zero_le g0
 unfold uo
 have e:(BitVec.ofInt IntKind.u16.bits (x:Int) ||| BitVec.ofInt IntKind.u16.bits ((y:Int)*256)).toNat=x+y*256:=by
  rw[show((y:Int)*256)=((y*256:Nat):Int)from by rw[Int.natCast_mul];rfl,BitVec.toNat_or]
  show(BitVec.ofInt 16 (x:Int)).toNat ||| (BitVec.ofInt 16 ((y*256:Nat):Int)).toNat=_
  rw[BitVec.toNat_ofInt,BitVec.toNat_ofInt]
  rw[show(((x:Nat):Int)%((2^16:Nat):Int)).toNat=x from by rw[← Int.natCast_emod,Int.toNat_natCast,Nat.mod_eq_of_lt (by omega)]]
  rw[show(((y*256:Nat):Int)%((2^16:Nat):Int)).toNat=y*256 from by rw[← Int.natCast_emod,Int.toNat_natCast,Nat.mod_eq_of_lt (by omega)]]
  exact xP x y (by omega)
 rw[e,wrap_u16,iW (by omega) (by omega)]
 omega
def hd:List Int→Int×Int
 | a::b::c::d::_=>(a+256*b,c+256*d)
 | _=>(0,0)
theorem four{b:List Int}(h:4≤b.length):∃x y z u r,b=x::y::z::u::r:=by
 match b,h with
 | x::y::z::u::r,_=>exact⟨x,y,z,u,r,rfl⟩
theorem NU{b:List Int}(hb:∀x∈b,Byte x)(h:4≤b.length):q4f FF b=some (hd b):=by
 obtain⟨x,y,z,u,r,rfl⟩:=four h
 have hx:=hb x (by simp)
 have hy:=hb y (by simp)
 have hz:=hb z (by simp)
 have hu:=hb u (by simp)
 unfold q4f
 rw[show idx (x::y::z::u::r) 0=some x from rfl,bs,show idx (x::y::z::u::r) 1=some y from rfl,bs,
  show idx (x::y::z::u::r) 2=some z from rfl,bs,show idx (x::y::z::u::r) 3=some u from rfl,bs,
  FD hy,NT hu,Fb hx hy,Nt hz hu]
 rfl
theorem sub4{b:List Int}(h:4≤b.length):sub b 4 (len b)=some (b.drop 4):=by
 rw[lN,show(4:Int)=((4:Nat):Int)from rfl,kG b 4 b.length h (Nat.le_refl _),List.take_length]
theorem iT(f:bM):(bytesOf f).length=f.Payload.length+4:=by simp[bytesOf,lL];omega
theorem FT{f:bM}(h:∀x∈f.Payload,Byte x):∀x∈bytesOf f,Byte x:=by
 intro x hx
 unfold bytesOf at hx
 simp only[List.mem_append]at hx
 rcases hx with hx | hx | hx
 ·exact vv _ _ _ hx
 ·exact vv _ _ _ hx
 ·exact h x hx
theorem KD{f:bM}:bytesOf f=(f.Payload.length:Int)%256::(f.Payload.length:Int)/256%256::f.aU%256::f.aU/256%256::f.Payload:=rfl
theorem Kk{f:bM}(h:FOk f)(hl:f.Payload.length≤65531):hd (bytesOf f)=((f.Payload.length:Int),f.aU):=by
 obtain⟨c0,c1⟩:=h
 rw[KD]
 simp only[hd]
 congr 1 <;> omega
end Fr
end V
namespace V
namespace Fr
def az:jU:=⟨false,[]⟩
structure Val(a:jU):Prop where
 off:a.On=false→a.Buffer=[]
 on:a.On=true→a.Buffer≠[]
 hdr:a.On=true→4≤a.Buffer.length→(hd a.Buffer).2≠0∧(hd a.Buffer).1≤65531∧(a.Buffer.length:Int)-4<(hd a.Buffer).1
 xZ:∀x∈a.Buffer,Byte x
theorem Val.len{a:jU}(h:Val a):a.Buffer.length≤65535:=by
 cases ho:a.On with
 | false=>rw[h.off ho];simp
 | true=>
   rcases Nat.lt_or_ge a.Buffer.length 4 with h4 | h4
   ·omega
   ·have:=h.hdr ho h4
    omega
theorem zD:Val az:=⟨fun _=>rfl,(fun h=>by cases h),(fun h=>by cases h),fun x hx=>by simp[az]at hx⟩
def LV(b:List Int)(e:Int):jU×List bM×Int:=
 if b.length<4 then(⟨true,b⟩,[],e)
 else if (hd b).2=0 then(az,[],if e=0 then 1 else e)
 else if 65531<(hd b).1∨(hd b).1<(b.length:Int)-4 then(az,[],if e=0 then 4 else e)
 else if (b.length:Int)-4<(hd b).1 then(⟨true,b⟩,[],e)
 else(az,[⟨(hd b).2,b.drop 4⟩],e)
theorem LQ{b:List Int}(hb:∀x∈b,Byte x)(hne:b≠[])(e:Int):Val (LV b e).1:=by
 unfold LV
 split
 ·rename_i h0
  exact⟨(fun h=>by cases h),fun _=>hne,(fun _ h=>by simp only at h;omega),hb⟩
 ·split
  ·exact zD
  ·rename_i h1
   split
   ·exact zD
   ·rename_i h2
    split
    ·rename_i h3
     exact⟨(fun h=>by cases h),fun _=>hne,fun _ _=>⟨h1,by simp only;omega,h3⟩,hb⟩
    ·exact zD
theorem A9(b:List Int)(e:Int):(LV b e).2.1.length≤1:=by
 unfold LV
 (repeat' split) <;> simp
theorem LP(e x:Int):q5i FF e x=some (az,[],if e=0 then x else e):=by
 unfold q5i
 by_cases h:e=0
 ·rw[if_pos (show(e==0)=true from by simpa using h),if_pos h];rfl
 ·rw[if_neg (show ¬ (e==0)=true from by simpa using h),if_neg h];rfl
theorem ZK{b:List Int}(hb:∀x∈b,Byte x)(hl:b.length≤1000000)(e:Int):q4g FF b e=some (LV b e):=by
 unfold q4g LV
 by_cases h0:b.length<4
 ·rw[if_pos (dt (show len b<4 from by rw[lN];omega)),if_pos h0]
 rw[if_neg (df (show ¬ len b<4 from by rw[lN];omega)),if_neg h0,NU hb (by omega),bs]
 have ew:aI (len b-4)=(b.length:Int)-4:=bN (by rw[lN];omega) (by rw[lN];omega)
 rw[ew]
 by_cases h1:(hd b).2=0
 ·rw[if_pos (show((hd b).2==0)=true from by simpa using h1),if_pos h1,LP]
 rw[if_neg (show ¬ ((hd b).2==0)=true from by simpa using h1),if_neg h1]
 by_cases h2:65531<(hd b).1∨(hd b).1<(b.length:Int)-4
 ·rw[if_pos (show(decide ((hd b).1>65531)||decide ((b.length:Int)-4>(hd b).1))=true from by simpa using h2),if_pos h2,LP]
 rw[if_neg (show ¬ (decide ((hd b).1>65531)||decide ((b.length:Int)-4>(hd b).1))=true from by simpa using h2),if_neg h2]
 by_cases h3:(b.length:Int)-4<(hd b).1
 ·rw[if_pos (show decide ((b.length:Int)-4<(hd b).1)=true from by simpa using h3),if_pos h3]
 rw[if_neg (show ¬ decide ((b.length:Int)-4<(hd b).1)=true from by simpa using h3),if_neg h3,sub4 (by omega),bs,join_one FF _ (by unfold FF;omega) (by simp;omega)]
 rfl
def feed(a:jU)(p:eT):jU×List bM×Int:=
 if p.dH=1∧p.Payload=[]then(a,[],0)
 else if (p.dH≠1∧p.dH≠2)∨p.Payload=[]then(a,[],12)
 else if p.dH=2 then LV p.Payload (if a.On=true then 13 else 0)
 else if a.On=false then(az,[],13)
 else LV (a.Buffer++p.Payload) 0
theorem Io(l:List Int):(len l==0)=decide (l=[]):=by
 cases l with
 | nil=>rfl
 | cons x r=>
   have h1:(len (x::r)==0)=false:=by
    rw[beq_eq_false_iff_ne,lN,List.length_cons]
    omega
   rw[h1]
   simp
theorem kE{a:jU}(h:a.Buffer.length≤140737488355328):q2q FF a=some a:=by
 unfold q2q q6y
 rw[join_one FF _ (by unfold FF;omega) h]
 rfl
theorem Vk{a:jU}{p:eT}(ha:Val a)(hp:∀x∈p.Payload,Byte x)(hl:p.Payload.length≤200000):q3l FF a p=some (feed a p):=by
 have hal:=ha.len
 have hc:=kE (a:=a) (by omega)
 unfold q3l feed
 rw[Io p.Payload,Io a.Buffer]
 have hemp:((!a.On)&&decide (a.Buffer=[])) = !a.On:=by
  cases ho:a.On with
  | false=>simp[ha.off ho]
  | true=>simp
 rw[hemp]
 by_cases h0:p.dH=1∧p.Payload=[]
 ·rw[if_pos (show((p.dH==1)&&decide (p.Payload=[]))=true from by simpa using h0),if_pos h0,hc];rfl
 rw[if_neg (show ¬ ((p.dH==1)&&decide (p.Payload=[]))=true from by simpa using h0),if_neg h0]
 by_cases h1:(p.dH≠1∧p.dH≠2)∨p.Payload=[]
 ·rw[if_pos (show(((p.dH != 1)&&(p.dH != 2))||decide (p.Payload=[]))=true from by simpa using h1),if_pos h1,hc];rfl
 rw[if_neg (show ¬ (((p.dH != 1)&&(p.dH != 2))||decide (p.Payload=[]))=true from by simpa using h1),if_neg h1]
 have j1:∀(x:Int) (b:List Int),(∀x∈b,Byte x)→b.length≤1000000→q5j FF x b=some (LV b x):=fun x b hb hbl=>by
  unfold q5j
  rw[ZK hb hbl]
  rfl
 have j2:∀x,q5k FF p x=some (LV p.Payload x):=fun x=>by
  unfold q5k
  rw[join_one FF _ (by unfold FF;omega) (by omega),bs,j1 x _ hp (by omega)]
 by_cases h2:p.dH=2
 ·rw[if_pos (show(p.dH==2)=true from by simpa using h2),if_pos h2]
  cases ho:a.On with
  | false=>rw[if_neg (by decide),j2];rfl
  | true=>rw[if_pos (by decide),j2];rfl
 rw[if_neg (show ¬ (p.dH==2)=true from by simpa using h2),if_neg h2]
 cases ho:a.On with
 | false=>rfl
 | true=>
   rw[if_neg (by decide),if_neg (by decide),AO FF _ _ (by unfold FF;omega) (by omega),bs,j1 0 _ (fun x hx=>(List.mem_append.1 hx).elim (ha.xZ x) (hp x)) (by simp;omega)]
theorem BD{a:jU}{p:eT}(ha:Val a)(hp:∀x∈p.Payload,Byte x):Val (feed a p).1:=by
 unfold feed
 split
 ·exact ha
 ·split
  ·exact ha
  ·rename_i h1
   have hne:p.Payload≠[]:=fun h=>h1 (.inr h)
   split
   ·exact LQ hp hne _
   ·split
    ·exact zD
    ·exact LQ (fun x hx=>(List.mem_append.1 hx).elim (ha.xZ x) (hp x)) (by simp[hne]) _
theorem IZ(a:jU)(p:eT):(feed a p).2.1.length≤1:=by
 unfold feed
 split
 ·simp
 ·split
  ·simp
  ·split
   ·exact A9 _ _
   ·split
    ·simp
    ·exact A9 _ _
end Fr
end V
namespace V
def zm:aL:=⟨0,0,[],[],[],0,⟨false,[]⟩,[],0,0⟩
def iL(n:Int):Bool:=decide (n≥23)&&decide (n≤4096)
def countB(n:Int):Bool:=decide (n≥0)&&decide (n≤65535)
def tH(l:List eZ)(x:eZ):Int:=
 if x.bU=0 then 1
 else if l.any (fun o=>o.bU==x.bU)=true then 7
 else if (iL x.bZ&&iL x.cu&&countB x.aA&&(decide (x.Level≥0)&&decide (x.Level≤2)))=false then 5
 else 0
def AA(l:List eZ):Nat→Nat→Int
 | _,0=>0
 | k,n+1=>match l[k]? with
   | none=>0
   | some x=>if tH (l.take k) x=0 then AA l (k+1) n else tH (l.take k) x
def gV(role:Int)(l:List eZ):aL×Int:=
 if role≠0∧role≠1 then(zm,1)
 else if l.length>64 then(zm,4)
 else if AA l 0 l.length=0 then(⟨role,0,l,[],[],1,⟨false,[]⟩,[],0,27⟩,0)else(zm,AA l 0 l.length)
theorem ZL(F:Nat)(l:List eZ)(c:eZ)(hF:l.length<F)(hl:l.length<1000000000):q3y F l c=some (fidx (fun o=>o.bU==c.bU) l,c):=by
 unfold q3y fidx
 have k:=ku (body:=fun s:eZ×Int=>WU F l s.1 s.2) (l:=l) (p:=fun o=>o.bU==c.bU) (c:=c) (g:=fun i=>(i,c)) (fun i x hx=>by
  have hlt:=(gS.1 hx).1
  show WU F l _ _=_
  unfold WU q58
  rw[if_pos (by simp[len];omega),bf hx]
  simp only[bs,wN i (by omega)]
  split <;> rfl) (by
  show WU F l _ _=_
  unfold WU
  rw[if_neg (by simp[len])]) hF
 rw[k]
 cases l.findIdx? (fun o=>o.bU==c.bU) <;> rfl
theorem ZY(F:Nat)(l:List eZ)(c:eZ)(hF:l.length<F)(hl:l.length<1000000000):q3z F l c=some (l.any (fun o=>o.bU==c.bU),c):=by
 unfold q3z
 rw[ZL F l c hF hl,bs,qZ]
theorem NG(F:Nat)(l:List eZ)(i:Nat)(x:eZ)(hx:l[i]? = some x)(hF:l.length<F)(hl:l.length<1000000000):WT F l (i:Int)=some (if tH (l.take i) x=0 then .next ((i+1:Nat):Int)else .done (.inr (zm,tH (l.take i) x))):=by
 have hlt:=(gS.1 hx).1
 have hsub:sub l 0 (i:Int)=some (l.take i):=by
  have:=kG l 0 i (by omega) (by omega)
  rw[show((0:Nat):Int)=0 from rfl]at this
  rw[this]
  simp
 unfold WT qy qn
 rw[if_pos (by simp[len];omega),bf hx,bs,hsub,bs,ZY F _ _ (by rw[List.length_take];omega) (by rw[List.length_take];omega)]
 simp only[bs,wN i (by omega)]
 unfold tH
 by_cases h1:x.bU=0
 ·rw[if_pos (by simpa using h1),if_pos h1];rfl
 rw[if_neg (by simpa using h1),if_neg h1]
 by_cases h2:(l.take i).any (fun o=>o.bU==x.bU)=true
 ·rw[if_pos h2,if_pos h2];rfl
 rw[if_neg h2,if_neg h2]
 cases hb1:iL x.bZ <;> cases hb2:iL x.cu <;> cases hb3:countB x.aA <;> cases hb4:(decide (x.Level≥0)&&decide (x.Level≤2)) <;> (unfold iL at hb1 hb2;unfold countB at hb3;simp[hb1,hb2,hb3,hb4,zm])
theorem Dy{l:List eZ}{k n:Nat}{x:eZ}(h:l[k]? = some x):AA l k (n+1)=if tH (l.take k) x=0 then AA l (k+1) n else tH (l.take k) x:=by simp only[AA,h]
theorem Ap(F:Nat)(l:List eZ)(hF:l.length<F)(hl:l.length<1000000000)(body:Int→Option (Out Int (Sum Unit (aL×Int))))(hb:∀(i:Nat) x,l[i]? = some x→body (i:Int)=some (if tH (l.take i) x=0 then .next ((i+1:Nat):Int)else .done (.inr (zm,tH (l.take i) x))))(he:body (l.length:Int)=some (.done (.inl ()))) :
 ∀(n k f:Nat),k+n=l.length→n<f→iter body f (k:Int)=some (if AA l k n=0 then .inl ()else .inr (zm,AA l k n))
 | 0,k,f,hk,hf=>by
   have:k=l.length:=by omega
   subst this
   cases f with
   | zero=>omega
   | succ f=>rw[aW he];rfl
 | n+1,k,f,hk,hf=>by
   have hx:l[k]? = some l[k]:=gE (by omega)
   have h1:=hb k _ hx
   cases f with
   | zero=>omega
   | succ f=>
     rw[Dy hx]
     by_cases h2:tH (l.take k) l[k]=0
     ·rw[if_pos h2]at h1
      rw[bV h1,if_pos h2]
      exact Ap F l hF hl body hb he n (k+1) f (by omega) (by omega)
     ·rw[if_neg h2]at h1
      rw[aW h1,if_neg h2,if_neg h2]
theorem Fh(F:Nat)(role:Int)(l:List eZ)(hF:1000<F):YT F role l=some (gV role l):=by
 unfold YT gV
 by_cases h1:role≠0∧role≠1
 ·rw[if_pos (by simpa using h1),if_pos h1];rfl
 rw[if_neg (by simpa using h1),if_neg h1]
 by_cases h2:l.length>64
 ·rw[if_pos (by simp[len];omega),if_pos h2];rfl
 rw[if_neg (by simp[len];omega),if_neg h2]
 have k:=Ap F l (by omega) (by omega) (fun s=>WT F l s) (fun i x hx=>NG F l i x hx (by omega) (by omega)) (by
  show WT F l _=_
  unfold WT
  rw[if_neg (by simp[len])]) l.length 0 F (by omega) (by omega)
 rw[show((0:Nat):Int)=0 from rfl]at k
 rw[k]
 by_cases h3:AA l 0 l.length=0
 ·rw[if_pos h3,if_pos h3]
  simp only[bs]
  unfold q6b
  rw[L8 F _ (by omega)]
  rfl
 ·rw[if_neg h3,if_neg h3];rfl
theorem NR{body:Int→Option (Out Int (Sum Unit (aL×Int)))}{l:List eZ}{p:eZ→Bool}{e:aL×Int}{n F:Nat}(h:∀(i:Nat) x,i<n→l[i]? = some x→body (i:Int)=some (if p x=true then .done (.inr e)else .next ((i+1:Nat):Int)))(he:body (n:Int)=some (.done (.inl ())))(hn:n≤l.length)(hF:n<F):iter body F 0=some (if (l.take n).any p=true then .inr e else .inl ()):=by
 have hlen:(l.take n).length=n:=by rw[List.length_take];omega
 have:=AU (body:=body) (l:=l.take n) (p:=p) (o:=.inr e) (e:=.inl ()) (fun i x hx=>by
  have hlt:=(gS.1 hx).1
  rw[hlen]at hlt
  rw[List.getElem?_take,if_pos hlt]at hx
  exact h i x hlt hx) (by rw[hlen];exact he) F 0 (by omega) (by omega)
 simpa using this
theorem JQ(F:Nat)(l:List eZ)(i:Nat)(x:eZ)(hx:l[i]? = some x)(hF:l.length<F)(hl:l.length<1000000000):Wm F l (i:Int)=some (if tH (l.take i) x=0 then .next ((i+1:Nat):Int)else .done (.inr (zm,tH (l.take i) x))):=by
 have hlt:=(gS.1 hx).1
 unfold Wm
 rw[if_pos (by simp[len];omega),bf hx,bs]
 unfold tH
 by_cases h1:x.bU=0
 ·rw[if_pos (by simpa using h1),if_pos h1];rfl
 rw[if_neg (by simpa using h1),if_neg h1]
 have k:=NR (body:=fun s=>Wn F l (i:Int) x s) (l:=l) (p:=fun o=>o.bU==x.bU) (e:=(zm,7)) (n:=i) (F:=F) (fun j y hj hy=>by
  show Wn F l _ x _=_
  unfold Wn q83
  rw[if_pos (by simp;omega),bf hy]
  simp only[bs,wN j (by omega)]
  split <;> rfl) (by
  show Wn F l _ x _=_
  unfold Wn
  rw[if_neg (by simp)]) (by omega) (by omega)
 rw[k]
 by_cases h2:(l.take i).any (fun o=>o.bU==x.bU)=true
 ·rw[if_pos h2,if_pos h2];rfl
 rw[if_neg h2,if_neg h2]
 simp only[bs]
 unfold q82 q81 q3v q5v
 simp only[bs,wN i (by omega)]
 have hv:(decide (x.Level≥0)&&decide (x.Level≤2)) = !(decide (x.Level<0)||decide (x.Level>2)):=by
  by_cases h3:x.Level<0 <;> by_cases h4:x.Level>2 <;> simp[h3,h4] <;> omega
 cases hb1:iL x.bZ <;> cases hb2:iL x.cu <;> cases hb3:countB x.aA <;> cases hb4:decide (x.Level<0) <;> cases hb5:decide (x.Level>2) <;> (unfold iL at hb1 hb2;unfold countB at hb3;rw[hv,hb4,hb5];simp[hb1,hb2,hb3,zm])
theorem K7(F:Nat)(role:Int)(l:List eZ)(hF:1000<F):q3g F role l=some (gV role l):=by
 unfold q3g gV
 by_cases h1:role≠0∧role≠1
 ·rw[if_pos (by simpa using h1),if_pos h1];rfl
 rw[if_neg (by simpa using h1),if_neg h1]
 by_cases h2:l.length>64
 ·rw[if_pos (by simp[len];omega),if_pos h2];rfl
 rw[if_neg (by simp[len];omega),if_neg h2]
 have k:=Ap F l (by omega) (by omega) (fun s=>Wm F l s) (fun i x hx=>JQ F l i x hx (by omega) (by omega)) (by
  show Wm F l _=_
  unfold Wm
  rw[if_neg (by simp[len])]) l.length 0 F (by omega) (by omega)
 rw[show((0:Nat):Int)=0 from rfl]at k
 rw[k]
 by_cases h3:AA l 0 l.length=0
 ·rw[if_pos h3,if_pos h3]
  simp only[bs]
  unfold q80
  rw[vO (by omega) (by omega)]
  rfl
 ·rw[if_neg h3,if_neg h3];rfl
def lvl(n:Int):Int:=if n<0 then 0 else if n>2 then 2 else n
theorem Da(F:Nat)(m:aL)(n:Int)(hF:10000000000<F)(h:Sz m):q39 F m n=some { m with Level:=lvl n }:=by
 unfold q39
 rw[uV F m hF h]
 have:imax 0 (bY n 2)=lvl n:=by unfold imax bY lvl;split <;> split <;> (try split) <;> omega
 simp[this]
theorem QT:q1z FF=some true:=by kernel_rfl
end V
namespace V
namespace Sd
theorem Qw{α:Type}(c:Prop) [Decidable c](a b:α):(if c then some a else some b)=some (if c then a else b):=by split <;> rfl
def lastOf(c:aS):Int:=match c.Out with | []=>0 | s::_=>1+s.length
structure Sm(c:aS):Prop where
 out:c.Out.length≤1000
 each:∀s∈c.Out,s.length≤1000000
 inn:c.In.length≤1000000
theorem Rk{α:Type}(l m:List α)(h:l.length=m.length):DU l m=m:=by
 unfold DU
 rw[h,List.take_length,← h,List.drop_length,List.append_nil]
theorem kE(F:Nat)(c:aS)(hF:2000<F)(h:Sm c):qu F c=some c:=by
 obtain⟨h1,h2,h3⟩:=h
 unfold qu q6q
 have:=dW (body:=fun s:List (List Int)×Int=>Wz F c s.1 s.2) (fun i=>(c.Out.take i,(i:Int))) c.Out.length c.Out (fun i hi=>by
  have hx:c.Out[i]? = some c.Out[i]:=gE hi
  have hm:=h2 _ (gM hi)
  show Wz F c _ _=_
  unfold Wz
  rw[if_pos (by simp[len];omega)]
  simp only[dN,hx,bs,lN]
  rw[Au (by omega) (by omega)]
  simp only[bs]
  rw[Rk _ _ (by simp),dP (by simp;omega) (by omega)]
  simp only[bs,iJ hx,wN i (by omega)]) (by
  show Wz F c _ _=_
  unfold Wz
  rw[if_neg (by simp[len])]
  simp) F 0 (by omega) (by omega)
 rw[List.take_zero,show((0:Nat):Int)=0 from rfl]at this
 rw[this]
 simp only[bs]
 rw[y5 F [c.In] (by simp;omega) (by simp) (by simp;omega)]
 simp
theorem eY{x:Int}(h1 : -1000000000000000000≤x)(h2:x≤1000000000000000000):aI x=x:=bN (by omega) (by omega)
structure Ok(c:aS):Prop where
 ids:¬ (c.Local<64∨c.Local>127∨c.Remote<64∨c.Remote>127)
 psm:c.bU≠0
 sP:23≤c.bZ∧c.bZ≤4096
 mps:23≤c.cu∧c.cu≤4096
 YU:23≤c.jv∧c.jv≤4096
 YV:23≤c.dn∧c.dn≤4096
 tx:0≤c.aN∧c.aN≤65535
 rx:0≤c.aF∧c.aF≤65535
 given:0≤c.Given∧c.Given≤65535
 few:c.Out.length≤64
 short:∀s∈c.Out,(s.length:Int)≤c.jv
 sent:0≤c.aR∧c.aR≤lastOf c
 want : -1≤c.Want∧c.Want≤c.bZ
 inn:(c.Want = -1→c.In.length=0)∧(c.Want≥0→(c.In.length:Int)<c.Want)
def fm(s:List Int):List Int:=[(s.length:Int)%256,(s.length:Int)/256]++s
theorem Hq(F:Nat)(s:List Int)(hF:5<F)(hs:s.length≤4096):q4a F s=some (fm s):=by
 unfold q4a fm
 have e1:zP (len s) 8=(s.length:Int)/256:=by
  unfold zP
  rw[lN,show(2:Int)^8=256 by decide,Int.fdiv_eq_ediv_of_nonneg _ (by omega)]
 have e2:j3 (len s)=(s.length:Int)%256:=rfl
 have e3:j3 ((s.length:Int)/256)=(s.length:Int)/256:=EF (by omega) (by omega)
 rw[e1,e2,e3,y5 F _ (by simp;omega) (by simp) (by simp;omega)]
 simp
theorem lM(s:List Int):(fm s).length=s.length+2:=by simp[fm]
def partOf(c:aS)(s:List Int):List Int:=((fm s).drop c.aR.toNat).take c.dn.toNat
def Dq(c:aS)(s:List Int)(r:List (List Int)):aS:=
 if c.aR+c.dn≥s.length+2 then { c with aN:=c.aN-1,Out:=r,aR:=0 }else { c with aN:=c.aN-1,aR:=c.aR+c.dn }
theorem Px(F:Nat)(c:aS)(l:List (List Int))(s:List Int)(r:List (List Int))(hF:5<F)(hl:l.length≤1000000)(h:Ok c)(ho:c.Out=s::r)(ht:c.aN>0) :
 q4b F c l=some (Dq c s r,l++[partOf c s]):=by
 have hsl:=h.short s (by rw[ho];simp)
 have hp:=h.YU
 have hm:=h.YV
 have hse:=h.sent
 have htx:=h.tx
 rw[show lastOf c=1+s.length by unfold lastOf;rw[ho]]at hse
 unfold q4b
 have hL:len (fm s)=s.length+2:=by rw[lN,lM];omega
 have e1:imax 0 (bY c.aR (len (fm s)))=c.aR:=by unfold imax bY;rw[hL];split <;> split <;> omega
 have e2:aI (len (fm s)-c.aR)=s.length+2-c.aR:=by rw[hL,eY (by omega) (by omega)]
 have e3:imax 1 (bY c.dn (s.length+2-c.aR))=min c.dn (s.length+2-c.aR):=by unfold imax bY;split <;> split <;> omega
 have e4:bY (min c.dn (s.length+2-c.aR)) (s.length+2-c.aR)=((min c.dn (s.length+2-c.aR)).toNat:Int):=by unfold bY;split <;> omega
 have e5:aI (c.aR+min c.dn (s.length+2-c.aR))=c.aR+min c.dn (s.length+2-c.aR):=eY (by omega) (by omega)
 have e6:aI (c.aN-1)=c.aN-1:=eY (by omega) (by omega)
 have e7:sub (fm s) c.aR (len (fm s))=some ((fm s).drop c.aR.toNat):=by
  have:=kG (fm s) c.aR.toNat (fm s).length (by rw[lM];omega) (by omega)
  rw[List.take_length,show((c.aR.toNat:Nat):Int)=c.aR by omega]at this
  exact this
 have e8:DU (List.replicate (min c.dn (s.length+2-c.aR)).toNat 0) ((fm s).drop c.aR.toNat)=partOf c s:=by
  unfold DU partOf
  have hd:(List.replicate (min c.dn (s.length+2-c.aR)).toNat (0:Int)).drop ((fm s).drop c.aR.toNat).length=[]:=List.drop_of_length_le (by rw[List.length_replicate,List.length_drop,lM];omega)
  rw[hd,List.length_replicate,List.append_nil]
  by_cases hc:c.dn≤s.length+2-c.aR
  ·rw[show(min c.dn (s.length+2-c.aR)).toNat=c.dn.toNat by omega]
  ·rw[List.take_of_length_le (by rw[List.length_drop,lM];omega),List.take_of_length_le (by rw[List.length_drop,lM];omega)]
 rw[show idx c.Out 0=some s by rw[ho];rfl,bs,Hq F s hF (by omega),bs]
 simp only[e1,e2,e3]
 rw[e4,Au (by omega) (by omega),bs,e7,bs,e8,dP (by simp;omega) (by omega),bs,e5,e6,hL]
 unfold Dq
 by_cases hc:c.aR+c.dn≥s.length+2
 ·have hsub:sub c.Out 1 (len c.Out)=some r:=by
   have:=kG c.Out 1 c.Out.length (by rw[ho];simp) (by omega)
   rw[List.take_length,ho]at this
   rw[ho]
   exact this
  rw[if_pos (by simp;omega),hsub,bs,if_pos hc]
 ·rw[if_neg (by simp;omega),if_neg hc,show c.aR+min c.dn (s.length+2-c.aR)=c.aR+c.dn by omega]
theorem J4{c:aS}{s:List Int}{r:List (List Int)}(h:Ok c)(hs:Sm c)(ho:c.Out=s::r)(ht:c.aN>0):Ok (Dq c s r)∧Sm (Dq c s r)∧(Dq c s r).aN=c.aN-1:=by
 obtain⟨a1,a2,b1,b2,b3,b4,b5,b6,b7,a4,a5,c1,c2,c3⟩:=h
 obtain⟨s1,s2,s3⟩:=hs
 rw[show lastOf c=1+s.length by unfold lastOf;rw[ho]]at c1
 rw[ho]at a4 a5 s1 s2
 simp only[List.length_cons]at a4 s1
 unfold Dq
 by_cases hc:c.aR+c.dn≥s.length+2
 ·rw[if_pos hc]
  refine⟨⟨a1,a2,b1,b2,b3,b4,by simp only;omega,b6,b7,by simp only;omega,fun x hx=>a5 x (List.mem_cons_of_mem _ hx),?_,c2,c3⟩,⟨by simp only;omega,fun x hx=>s2 x (List.mem_cons_of_mem _ hx),s3⟩,rfl⟩
  unfold lastOf
  simp only
  cases r with
  | nil=>simp
  | cons y r=>simp only;omega
 ·rw[if_neg hc]
  refine⟨⟨a1,a2,b1,b2,b3,b4,by simp only;omega,b6,b7,by simp only[ho,List.length_cons];omega,by simp only[ho];exact a5,?_,c2,c3⟩,⟨by simp only[ho,List.length_cons];omega,by simp only[ho];exact s2,s3⟩,rfl⟩
  unfold lastOf
  simp only[ho]
  omega
theorem RB(a b:Int)(ha:Byte a)(hb:Byte b):uo .i64 a (b*256)=a+256*b:=by
 obtain⟨a,rfl⟩:=Int.eq_ofNat_of_zero_le ha.1
 obtain⟨b,rfl⟩:=Int.eq_ofNat_of_zero_le hb.1
 have h1:=ha.2
 have h2:=hb.2
 unfold uo
 rw[show((b:Int)*256)=((b*256:Nat):Int) by omega]
 rw[BitVec.ofInt_natCast,BitVec.ofInt_natCast,BitVec.toNat_or,BitVec.toNat_ofNat,BitVec.toNat_ofNat]
 rw[Nat.mod_eq_of_lt (show a<2^IntKind.i64.bits by simp[IntKind.bits];omega),Nat.mod_eq_of_lt (show b*256<2^IntKind.i64.bits by simp[IntKind.bits];omega)]
 rw[Nat.or_comm,show b*256=b <<< 8 by rw[Nat.shiftLeft_eq],← Nat.shiftLeft_add_eq_or_of_lt (by omega),wrap_i64,Nat.shiftLeft_eq,eY (by omega) (by omega)]
 omega
theorem shl8{y:Int}(hy:Byte y):lC .i64 (aI y) 8=y*256:=by
 unfold Byte at hy
 unfold lC
 rw[wrap_i64,eY (x:=y) (by omega) (by omega),show(2:Int)^8=256 by decide,eY (by omega) (by omega)]
def grown(c:aS)(part:List Int)(want:Int):aS×List (List Int)×Int:=
 if len (c.In++part)<want then({ c with aF:=aI (c.aF-1),In:=c.In++part,Want:=want },[],0)
 else({ c with aF:=aI (c.aF-1),In:=[],Want:=(-1) },[c.In++part],0)
theorem IU{c:aS}{part:List Int}{want:Int}(hs:Sm c)(h:Ok c)(hr:c.aF≠0)(h0:0≤want)(h1:want≤c.bZ):Ok (grown c part want).1∧Sm (grown c part want).1∧(grown c part want).2.1.length≤1:=by
 obtain⟨a1,a2,b1,b2,b3,b4,b5,b6,b7,a4,a5,c1,c2,c3⟩:=h
 have e:aI (c.aF-1)=c.aF-1:=eY (by omega) (by omega)
 unfold grown
 rw[e]
 by_cases hl:len (c.In++part)<want
 ·rw[if_pos hl]
  have hl':((c.In++part).length:Int)<want:=hl
  refine⟨⟨a1,a2,b1,b2,b3,b4,b5,?_,b7,a4,a5,c1,?_,?_⟩,⟨hs.out,hs.each,?_⟩,by simp⟩
  ·show 0≤c.aF-1∧c.aF-1≤65535;omega
  ·show -1≤want∧want≤c.bZ;omega
  ·refine⟨fun(hw:want = -1)=>by omega,fun _=>hl'⟩
  ·show(c.In++part).length≤1000000;omega
 ·rw[if_neg hl]
  refine⟨⟨a1,a2,b1,b2,b3,b4,b5,?_,b7,a4,a5,c1,?_,?_⟩,⟨hs.out,hs.each,by simp⟩,by simp⟩
  ·show 0≤c.aF-1∧c.aF-1≤65535;omega
  ·show -1≤(-1:Int)∧(-1:Int)≤c.bZ;omega
  ·exact⟨fun _=>rfl,fun(hw:(-1:Int)≥0)=>by omega⟩
theorem MV(F:Nat)(c:aS)(part:List Int)(want:Int)(hF:5000<F)(hs:Sm c)(hp:part.length≤1000000):((q9 F [c.In,part]).bind fun su=>
 if (decide ((len su)<want))=true then
  some ({ c with aF:=aI (c.aF-1),In:=su,Want:=want },[],0)
 else
  some ({ c with aF:=aI (c.aF-1),In:=[],Want:=(-1) },[su],0))=some (grown c part want):=by
 have:=hs.inn
 rw[y5 F _ (by simp;omega) (by simp) (by simp;omega)]
 simp only[bs,decide_eq_true_eq,List.flatten_cons,List.flatten_nil,List.append_nil]
 exact Qw _ _ _
def tkn(c:aS)(b:List Int):List Int×Int×Int:=
 if c.aF=0 then([],0,19)else if len b>c.cu then([],0,4)
 else if c.Want = -1 then(match b with
  | x::y::r=>if x+256*y>c.bZ∨(r.length:Int)>x+256*y then([],0,4)else(r,x+256*y,0)
  | _=>([],0,3))
 else if len b=0 then([],0,3)else if len c.In+len b>c.Want then([],0,4)else(b,c.Want,0)
theorem TG(x y:Int)(r:List Int):sub (x::y::r) 2 (len (x::y::r))=some r:=by
 have:=kG (x::y::r) 2 (x::y::r).length (by simp) (by simp)
 rw[List.take_length]at this
 exact this
theorem Tt(x y:Int)(r:List Int)(h:r.length≤65536):aI (len (x::y::r)-2)=r.length:=by
 rw[lN,List.length_cons,List.length_cons,eY (by omega) (by omega)]
 omega
theorem zI(F:Nat)(c:aS)(b:List Int)(hs:Sm c)(hb:b.length≤65536)(hB:∀x∈b,Byte x)(h:Ok c):q4x F c b=some (tkn c b):=by
 unfold q4x tkn
 have hrx:=h.rx
 have hlb:=lN b
 have hli:=lN c.In
 have hin:=hs.inn
 by_cases h2:c.aF=0
 ·rw[if_pos (by simp[h2]),if_pos h2]
 rw[if_neg (by simp;omega),if_neg h2]
 by_cases h3:len b>c.cu
 ·rw[if_pos (by simpa using h3),if_pos h3]
 rw[if_neg (by simpa using h3),if_neg h3]
 by_cases h4:c.Want = -1
 ·rw[if_neg (by simpa using h4),if_pos h4]
  match b,hB,hb with
  | [],_,_=>rfl
  | [x],_,_=>rfl
  | x::y::r,hB,hb=>
    have hx:=hB x (by simp)
    have hy:=hB y (by simp)
    have hr:r.length≤65536:=by simp at hb;omega
    rw[if_neg (c:=decide (len (x::y::r)<2)=true) (by rw[decide_eq_true_eq,lN,List.length_cons,List.length_cons];omega),show idx (x::y::r) 0=some x from rfl,show idx (x::y::r) 1=some y from rfl,bs,bs,shl8 hy]
    have hx':aI x=x:=eY (by have:=hx.1;omega) (by have:=hx.2;omega)
    rw[hx',RB x y hx hy]
    unfold q7d
    rw[Tt x y r hr,TG,bs]
    by_cases h6:x+256*y>c.bZ∨(r.length:Int)>x+256*y
    ·rw[if_pos (by simp;omega)];simp only[if_pos h6]
    ·rw[if_neg (by simp;omega)];simp only[if_neg h6]
 ·rw[if_pos (by simpa using h4),if_neg h4]
  by_cases h5:len b=0
  ·rw[if_pos (by simpa using h5),if_pos h5]
  rw[if_neg (by simpa using h5),if_neg h5,eY (x:=len c.In+len b) (by omega) (by omega)]
  by_cases h6:len c.In+len b>c.Want
  ·rw[if_pos (by simpa using h6),if_pos h6]
  ·rw[if_neg (by simpa using h6),if_neg h6];rfl
theorem Ok.sm{c:aS}(h:Ok c):Sm c:=by
 have h1:=h.few
 have h2:=h.short
 have h3:=h.YU
 have h4:=h.want
 have h5:=h.inn
 have h6:=h.sP
 refine⟨by omega,fun s hs=>by have:=h2 s hs;omega,?_⟩
 by_cases h7:c.Want = -1
 ·have:=h5.1 h7;omega
 ·have:=h5.2 (by omega);omega
end Sd
end V
namespace V
theorem ff:10000000000<FF:=by decide
theorem jB:∀(l m:List Int),l.Nodup→(∀x∈l,x∈m)→l.length≤m.length
 | [],_,_,_=>by simp
 | x::l,m,hn,hs=>by
   rw[List.nodup_cons]at hn
   have hx:=hs x (by simp)
   have h1:=jB l (m.erase x) hn.2 fun y hy=>by
    have hne:y≠x:=fun e=>hn.1 (e▸hy)
    exact(List.mem_erase_of_ne hne).2 (hs y (by simp[hy]))
   rw[List.length_erase_of_mem hx]at h1
   have h2:0<m.length:=List.length_pos_of_mem hx
   rw[List.length_cons]
   omega
def sJ(l:List Int)(v:Int):List Int:=if l.any (fun x=>v==x)=true then l else l++[v]
theorem Ji(l:List Int)(v w:Int):w∈sJ l v↔w∈l∨w=v:=by
 unfold sJ
 split
 ·rename_i h
  rw[List.any_eq_true]at h
  obtain⟨x,hx,he⟩:=h
  have:v=x:=by simpa using he
  subst this
  constructor
  ·exact .inl
  ·rintro(h | rfl)
   ·exact h
   ·exact hx
 ·simp
theorem BP{l:List Int}(h:l.Nodup)(v:Int):(sJ l v).Nodup:=by
 unfold sJ
 split
 ·exact h
 ·rename_i hn
  rw[List.nodup_append]
  refine⟨h,by simp,fun a ha b hb e=>hn ?_⟩
  rw[List.mem_singleton]at hb
  rw[List.any_eq_true]
  exact⟨a,ha,by simp[e,hb]⟩
theorem Jj(l:List Int)(v:Int):(sJ l v).length≤l.length+1:=by
 unfold sJ;split <;> simp
def oM(l:List Int)(cs:List aS):List Int:=cs.foldl (fun l c=>sJ l c.Local) l
def oO(l:List Int)(as:List aT):List Int:=as.foldl (fun l s=>if (s.Kind==20||s.Kind==6)=true then sJ l s.Source else l) l
theorem oL:∀(cs:List aS) (l:List Int),l.Nodup→(oM l cs).Nodup∧(oM l cs).length≤l.length+cs.length∧∀w,w∈oM l cs↔w∈l∨∃c∈cs,c.Local=w
 | [],l,h=>⟨h,by simp[oM],fun w=>by simp[oM]⟩
 | c::cs,l,h=>by
   obtain⟨h1,h2,h3⟩:=oL cs (sJ l c.Local) (BP h _)
   have e:oM l (c::cs)=oM (sJ l c.Local) cs:=rfl
   rw[e]
   refine⟨h1,by have:=Jj l c.Local;rw[List.length_cons];omega,fun w=>?_⟩
   rw[h3,Ji]
   constructor
   ·rintro((h | rfl) | ⟨c',hc,rfl⟩)
    ·exact .inl h
    ·exact .inr ⟨c,by simp,rfl⟩
    ·exact .inr ⟨c',by simp[hc],rfl⟩
   ·rintro(h | ⟨c',hc,rfl⟩)
    ·exact .inl (.inl h)
    ·rcases List.mem_cons.1 hc with rfl | hc
     ·exact .inl (.inr rfl)
     ·exact .inr ⟨c',hc,rfl⟩
theorem oN:∀(as:List aT) (l:List Int),l.Nodup→(oO l as).Nodup∧(oO l as).length≤l.length+as.length∧∀w,w∈oO l as↔w∈l∨∃s∈as,(s.Kind=20∨s.Kind=6)∧s.Source=w
 | [],l,h=>⟨h,by simp[oO],fun w=>by simp[oO]⟩
 | s::as,l,h=>by
   by_cases hk:(s.Kind==20||s.Kind==6)=true
   ·obtain⟨h1,h2,h3⟩:=oN as (sJ l s.Source) (BP h _)
    have e:oO l (s::as)=oO (sJ l s.Source) as:=by unfold oO;rw[List.foldl_cons,if_pos hk]
    rw[e]
    have hk2:s.Kind=20∨s.Kind=6:=by simpa using hk
    refine⟨h1,by have:=Jj l s.Source;rw[List.length_cons];omega,fun w=>?_⟩
    rw[h3,Ji]
    constructor
    ·rintro((h | rfl) | ⟨c',hc,hq⟩)
     ·exact .inl h
     ·exact .inr ⟨s,by simp,hk2,rfl⟩
     ·exact .inr ⟨c',by simp[hc],hq⟩
    ·rintro(h | ⟨c',hc,hq⟩)
     ·exact .inl (.inl h)
     ·rcases List.mem_cons.1 hc with rfl | hc
      ·exact .inl (.inr hq.2.symm)
      ·exact .inr ⟨c',hc,hq⟩
   ·obtain⟨h1,h2,h3⟩:=oN as l h
    have e:oO l (s::as)=oO l as:=by unfold oO;rw[List.foldl_cons,if_neg hk]
    rw[e]
    have hk2:¬ (s.Kind=20∨s.Kind=6):=by simpa using hk
    refine⟨h1,by rw[List.length_cons];omega,fun w=>?_⟩
    rw[h3]
    constructor
    ·rintro(h | ⟨c',hc,hq⟩)
     ·exact .inl h
     ·exact .inr ⟨c',by simp[hc],hq⟩
    ·rintro(h | ⟨c',hc,hq⟩)
     ·exact .inl h
     ·rcases List.mem_cons.1 hc with rfl | hc
      ·exact absurd hq.1 hk2
      ·exact .inr ⟨c',hc,hq⟩
def bO(m:aL)(l:Int):Bool:=m.aD.any fun s=>(s.Kind==6)&&(s.Source==l)
def VE(m:aL)(k l:Int):Bool:=m.aD.any fun s=>(s.Kind==k)&&(s.Source==l)
def Az(m:aL)(lG:Int):Int:=fidx (fun c:aS=>c.Local==lG) m.aj
def ET(m:aL)(lG:Int):Int:=fidx (fun c:aS=>c.Remote==lG) m.aj
def gF(m:aL)(lG:Int):Bool:=(m.aj.any (fun c=>c.Local==lG)||VE m 20 lG)||VE m 6 lG
def nN:List Int:=(List.range 64).map fun(i:Nat)=>64+(i:Int)
def fU(m:aL):Nat:=(nN.filter (gF m)).length
def l5(m:aL):Int:=(nN.find? fun v=>!gF m v).getD 0
theorem tX:nN.Nodup:=by
 unfold nN List.Nodup
 rw[List.pairwise_map]
 exact List.pairwise_lt_range.imp fun h=>by omega
theorem BJ(v:Int):v∈nN↔64≤v∧v≤127:=by
 unfold nN
 rw[List.mem_map]
 constructor
 ·rintro⟨i,hi,rfl⟩
  rw[List.mem_range]at hi
  omega
 ·intro h
  exact⟨(v-64).toNat,by rw[List.mem_range];omega,by omega⟩
theorem dM(m:aL)(v:Int):gF m v=true↔(∃c∈m.aj,c.Local=v)∨∃s∈m.aD,(s.Kind=20∨s.Kind=6)∧s.Source=v:=by
 unfold gF VE
 simp only[Bool.or_eq_true,List.any_eq_true,Bool.and_eq_true,beq_iff_eq]
 constructor
 ·rintro((h | ⟨s,hs,h1,h2⟩) | ⟨s,hs,h1,h2⟩)
  ·exact .inl h
  ·exact .inr ⟨s,hs,.inl h1,h2⟩
  ·exact .inr ⟨s,hs,.inr h1,h2⟩
 ·rintro(h | ⟨s,hs,h1 | h1,h2⟩)
  ·exact .inl (.inl h)
  ·exact .inl (.inr ⟨s,hs,h1,h2⟩)
  ·exact .inr ⟨s,hs,h1,h2⟩
def qI(m:aL):List Int:=oO (oM [] m.aj) m.aD
theorem xG(m:aL):(qI m).Nodup∧(qI m).length≤m.aj.length+m.aD.length∧∀w,w∈qI m↔gF m w=true:=by
 obtain⟨a1,a2,a3⟩:=oL m.aj [] (by simp)
 obtain⟨b1,b2,b3⟩:=oN m.aD _ a1
 refine⟨b1,by simp at a2;unfold qI;omega,fun w=>?_⟩
 show w∈oO (oM [] m.aj) m.aD↔_
 rw[b3,a3,dM]
 simp
def Ca(m:aL):Prop:=(∀c∈m.aj,64≤c.Local∧c.Local≤127)∧∀s∈m.aD,(s.Kind=20∨s.Kind=6)→64≤s.Source∧s.Source≤127
theorem DC{m:aL}(h:Ca m){v:Int}(hv:gF m v=true):64≤v∧v≤127:=by
 rcases(dM m v).1 hv with⟨c,hc,rfl⟩ | ⟨s,hs,hk,rfl⟩
 ·exact h.1 c hc
 ·exact h.2 s hs hk
theorem MG{m:aL}(h:Ca m):(qI m).length=fU m:=by
 obtain⟨b1,_,b3⟩:=xG m
 unfold fU
 apply Nat.le_antisymm
 ·refine jB _ _ b1 fun x hx=>?_
  have hx2:=(b3 x).1 hx
  rw[List.mem_filter]
  exact⟨(BJ x).2 (DC h hx2),hx2⟩
 ·refine jB _ _ (tX.filter _) fun x hx=>?_
  rw[List.mem_filter]at hx
  exact(b3 x).2 hx.2
theorem kD{m:aL}(h:fU m<64):∃v,nN.find? (fun v=>!gF m v)=some v∧l5 m=v∧gF m v=false∧64≤v∧v≤127:=by
 cases hf:nN.find? (fun v=>!gF m v)with
 | none=>
   exfalso
   rw[List.find?_eq_none]at hf
   have:nN.filter (gF m)=nN:=by
    rw[List.filter_eq_self]
    intro a ha
    simpa using hf a ha
   unfold fU at h
   rw[this]at h
   simp[nN]at h
 | some v=>
   have h1:=List.find?_some hf
   have h2:=List.mem_of_find?_eq_some hf
   refine⟨v,rfl,?_,by simpa using h1,(BJ v).1 h2⟩
   unfold l5
   rw[hf]
   rfl
def after(n:Int):Int:=if n≥255 then 1 else n+1
def Tg:Nat→Int→Int
 | 0,n=>n
 | k+1,n=>Tg k (after n)
def Ie(A:List aT):Nat→Int→Int
 | 0,n=>n
 | k+1,n=>if A.any (fun s=>s.ID==n)=true then Ie A k (after n)else n
def wR(m:aL):Int:=Ie m.aD 255 m.dB
theorem xB{n:Int}(h:1≤n∧n≤255):1≤after n∧after n≤255:=by unfold after;split <;> omega
theorem R3:∀(k:Nat) (n:Int),1≤n∧n≤255→Tg k n=(n-1+k)%255+1
 | 0,n,h=>by unfold Tg;omega
 | k+1,n,h=>by
   unfold Tg
   rw[R3 k (after n) (xB h)]
   unfold after
   split <;> omega
theorem J7(A:List aT)(n:Int)(hn:1≤n∧n≤255)(hA:A.length<255):∃j,j<255∧A.any (fun s=>s.ID==Tg j n)=false:=by
 apply Classical.byContradiction
 intro hno
 have hall:∀j,j<255→∃s∈A,s.ID=Tg j n:=fun j hj=>by
  have h1:A.any (fun s=>s.ID==Tg j n)=true:=by
   cases hb:A.any (fun s=>s.ID==Tg j n)with
   | true=>rfl
   | false=>exact absurd ⟨j,hj,hb⟩ hno
  rw[List.any_eq_true]at h1
  obtain⟨s,hs,he⟩:=h1
  exact⟨s,hs,by simpa using he⟩
 have hnd:((List.range 255).map fun(i:Nat)=>(i:Int)+1).Nodup:=by
  unfold List.Nodup
  rw[List.pairwise_map]
  exact List.pairwise_lt_range.imp fun h=>by omega
 have hlen:=jB _ (A.map (·.ID)) hnd fun v hv=>by
  rw[List.mem_map]at hv
  obtain⟨i,hi,rfl⟩:=hv
  rw[List.mem_range]at hi
  obtain⟨s,hs,he⟩:=hall (((i:Int)+255-(n-1))%255).toNat (by omega)
  rw[List.mem_map]
  refine⟨s,hs,?_⟩
  rw[he,R3 _ _ hn]
  omega
 simp at hlen
 omega
theorem uW(A:List aT):∀(k:Nat) (n:Int),1≤n∧n≤255→1≤Ie A k n∧Ie A k n≤255
 | 0,n,h=>h
 | k+1,n,h=>by
   unfold Ie
   split
   ·exact uW A k _ (xB h)
   ·exact h
def qd(m:aL)(lG:Int)(b:List Int):aL:={ m with Out:=m.Out++[⟨lG,b⟩] }
def jM(m:aL)(s:aT):aL:=qd m 5 (Sg.iq s)
def jI(m:aL):aL:={ m with dB:=after (wR m) }
def fT(s:aT)(n:Int):aT:={ s with ID:=n }
def uf(m:aL)(s:aT):aL:={ jM (jI m) (fT s (wR m))with aD:=m.aD++[fT s (wR m)] }
def nL(m:aL)(c:aS):aL:=if bO m c.Local=true then m else uf m ⟨6,0,0,c.Local,c.Remote,0,0,0,0,⟨0,0,0,0,0⟩⟩
def gy(m:aL)(i:Nat)(c:aS):aL:={ m with aj:=m.aj.set i c }
def wm(x:bJ)(m:aL):bJ:={ x with aB:=m }
def oJ(s:aT):Prop:=Sg.vY s=0∧0≤s.bU∧s.bU≤65535
end V
namespace V
theorem jD:FF=1125899906842624:=rfl
theorem KF{b:Bool}(h:¬ b=true):(!b)=true:=by cases b <;> simp_all
theorem Vj(l:List aT)(c:aS)(hl:l.length≤1000000):q49 FF l c=some (l.any (fun s=>(s.Kind==6)&&(s.Source==c.Local)),c):=by
 unfold q49 q5f
 have k:=ku (F:=FF) (body:=fun s:aS×Int=>WB FF l s.1 s.2) (l:=l) (p:=fun s=>(s.Kind==6)&&(s.Source==c.Local)) (c:=c) (g:=fun i=>(i,c)) (fun i x hx=>by
  have hlt:=(gS.1 hx).1
  show WB FF l _ _=_
  unfold WB q5e
  rw[if_pos (by simp[len];omega),bf hx]
  simp only[bs,wN i (by omega)]
  split <;> rfl) (by
  show WB FF l _ _=_
  unfold WB
  rw[if_neg (by simp[len])]) (by rw[jD];omega)
 rw[k,← qZ]
 unfold fidx
 cases l.findIdx? (fun s=>(s.Kind==6)&&(s.Source==c.Local)) <;> rfl
theorem Vi(l:List aT)(n:Int)(hl:l.length≤1000000):q44 FF l n=some (l.any (fun s=>s.ID==n),n):=by
 unfold q44 q5b
 have k:=ku (F:=FF) (body:=fun s:Int×Int=>WJ FF l s.1 s.2) (l:=l) (p:=fun s=>s.ID==n) (c:=n) (g:=fun i=>(i,n)) (fun i x hx=>by
  have hlt:=(gS.1 hx).1
  show WJ FF l _ _=_
  unfold WJ q5a
  rw[if_pos (by simp[len];omega),bf hx]
  simp only[bs,wN i (by omega)]
  split <;> rfl) (by
  show WJ FF l _ _=_
  unfold WJ
  rw[if_neg (by simp[len])]) (by rw[jD];omega)
 rw[k,← qZ]
 unfold fidx
 cases l.findIdx? (fun s=>s.ID==n) <;> rfl
theorem AQ{α β:Type}{body:Int→Option (Out Int (Sum Unit β))}{l:List α}{p:α→Bool}{g:Int→β}(h:∀(i:Nat) x,l[i]? = some x→body (i:Int)=some (if p x=true then .done (.inr (g (i:Int)))else .next ((i+1:Nat):Int)))(he:body (l.length:Int)=some (.done (.inl ())))
 {F:Nat} (hF:l.length<F):iter body F 0=some (match l.findIdx? p with
  | some i=>.inr (g (i:Int))
  | none=>.inl ()):=by
 have key:∀(m:List α) (F k:Nat),l.drop k=m→k≤l.length→m.length<F→iter body F (k:Int)=some (match m.findIdx? p with
  | some i=>.inr (g ((k+i:Nat):Int))
  | none=>.inl ()):=by
  intro m
  induction m with
  | nil=>
    intro F k hd hk hF
    have hk2:k=l.length:=by
     have:=congrArg List.length hd
     rw[List.length_drop,List.length_nil]at this
     omega
    subst hk2
    cases F with
    | zero=>simp at hF
    | succ F=>rw[aW he];rfl
  | cons x m ih=>
    intro F k hd hk hF
    have hx:l[k]? = some x:=by
     have:=congrArg (fun z:List α=>z[0]?) hd
     simpa using this
    have hlt:=(gS.1 hx).1
    have hd2:l.drop (k+1)=m:=by
     have:=congrArg List.tail hd
     simpa using this
    have hb:=h k x hx
    cases F with
    | zero=>simp at hF
    | succ F=>
      rw[List.findIdx?_cons]
      by_cases hp:p x=true
      ·rw[if_pos hp]at hb
       rw[aW hb,if_pos hp]
       simp
      ·rw[if_neg hp]at hb
       rw[bV hb,ih F (k+1) hd2 hlt (by simp at hF;omega),if_neg hp]
       cases m.findIdx? p with
       | none=>rfl
       | some i=>
         simp only[Option.map_some]
         rw[show k+1+i=k+(i+1) by omega]
 have:=key l F 0 (by simp) (by omega) hF
 rw[show((0:Nat):Int)=0 from rfl]at this
 rw[this]
 cases l.findIdx? p with
 | none=>rfl
 | some i=>simp
theorem ZX(l:List aT)(hl:l.length≤1000000):q52 FF l=some (l.any fun s=>s.Kind==18):=by
 unfold q52 q5s
 have k:=AQ (F:=FF) (body:=fun s=>Wt FF l s) (l:=l) (p:=fun s=>s.Kind==18) (g:=fun i=>i) (fun i x hx=>by
  have hlt:=(gS.1 hx).1
  show Wt FF l _=_
  unfold Wt q5r
  rw[if_pos (by simp[len];omega),bf hx]
  simp only[bs,wN i (by omega)]
  split <;> rfl) (by
  show Wt FF l _=_
  unfold Wt
  rw[if_neg (by simp[len])]) (by rw[jD];omega)
 rw[k,← qZ]
 unfold fidx
 cases l.findIdx? (fun s=>s.Kind==18) <;> rfl
theorem YZ(l:List aS)(n:Int)(hl:l.length≤1000000):q4h FF l n=some (fidx (fun c=>c.Local==n) l,n):=by
 unfold q4h fidx
 have k:=ku (F:=FF) (body:=fun s:Int×Int=>Wy FF l s.1 s.2) (l:=l) (p:=fun c=>c.Local==n) (c:=n) (g:=fun i=>(i,n)) (fun i x hx=>by
  have hlt:=(gS.1 hx).1
  show Wy FF l _ _=_
  unfold Wy q5l
  rw[if_pos (by simp[len];omega),bf hx]
  simp only[bs,wN i (by omega)]
  split <;> rfl) (by
  show Wy FF l _ _=_
  unfold Wy
  rw[if_neg (by simp[len])]) (by rw[jD];omega)
 rw[k]
 cases l.findIdx? (fun c:aS=>c.Local==n) <;> rfl
theorem YG(l:List aS)(n:Int)(hl:l.length≤1000000):q4r FF l n=some (fidx (fun c=>c.Remote==n) l,n):=by
 unfold q4r fidx
 have k:=ku (F:=FF) (body:=fun s:Int×Int=>Wu FF l s.1 s.2) (l:=l) (p:=fun c=>c.Remote==n) (c:=n) (g:=fun i=>(i,n)) (fun i x hx=>by
  have hlt:=(gS.1 hx).1
  show Wu FF l _ _=_
  unfold Wu q5p
  rw[if_pos (by simp[len];omega),bf hx]
  simp only[bs,wN i (by omega)]
  split <;> rfl) (by
  show Wu FF l _ _=_
  unfold Wu
  rw[if_neg (by simp[len])]) (by rw[jD];omega)
 rw[k]
 cases l.findIdx? (fun c:aS=>c.Remote==n) <;> rfl
theorem Rl(l:List Int)(v:Int)(hl:l.length≤10000000):q2a FF l v=some (l.any fun x=>v==x):=by
 unfold q2a q59
 have k:=AQ (F:=FF) (body:=fun s=>WM FF l v s) (l:=l) (p:=fun x=>v==x) (g:=fun i=>i) (fun i x hx=>by
  have hlt:=(gS.1 hx).1
  show WM FF l v _=_
  unfold WM
  rw[if_pos (by simp[len];omega),bf hx]
  simp only[bs,wN i (by omega)]
  split <;> rfl) (by
  show WM FF l v _=_
  unfold WM
  rw[if_neg (by simp[len])]) (by rw[jD];omega)
 rw[k,← qZ]
 unfold fidx
 cases l.findIdx? (fun x=>v==x) <;> rfl
theorem l9(x:bJ)(c:aS)(h:x.aB.aD.length≤1000000):qt FF x c=some (bO x.aB c.Local):=by
 unfold qt
 rw[Vj _ c h]
 rfl
theorem u7(x:bJ)(n:Int)(h:x.aB.aj.length≤1000000):YR FF x n=some (Az x.aB n):=by
 unfold YR
 rw[YZ _ n h]
 rfl
theorem wO(x:bJ)(n:Int)(h:x.aB.aj.length≤1000000):q1i FF x n=some (ET x.aB n):=by
 unfold q1i
 rw[YG _ n h]
 rfl
theorem Gv(l:List Int)(v:Int)(hl:l.length≤5000000):q2b FF v l=some (sJ l v):=by
 unfold q2b sJ
 rw[Rl l v (by omega),bs]
 by_cases h:l.any (fun x=>v==x)=true
 ·rw[if_neg (by simp[h]),if_pos h]
 ·rw[if_pos (KF h),if_neg h,dP (by simp;omega) (by omega)]
  rfl
theorem MH(l:List Int)(cs:List aS)(c:aS):oM l (cs++[c])=sJ (oM l cs) c.Local:=by simp[oM]
theorem MI(l:List Int)(as:List aT)(s:aT):oO l (as++[s])=if (s.Kind==20||s.Kind==6)=true then sJ (oO l as) s.Source else oO l as:=by
 unfold oO
 rw[List.foldl_append]
 rfl
theorem EH(x:bJ)(h1:x.aB.aj.length≤1000000)(h2:x.aB.aD.length≤1000000):q43 FF x=some (qI x.aB):=by
 unfold q43
 have k:=dW (body:=fun s:List Int×Int=>Us FF x s.1 s.2) (fun i=>(oM [] (x.aB.aj.take i),(i:Int))) x.aB.aj.length (oM [] x.aB.aj) (fun i hi=>by
  have hx:x.aB.aj[i]? = some x.aB.aj[i]:=gE hi
  have hln:=(oL (x.aB.aj.take i) [] (by simp)).2.1
  rw[List.length_take]at hln
  show Us FF x (oM [] (x.aB.aj.take i)) (i:Int)=_
  unfold Us
  rw[if_pos (by simp[len];omega),bf hx,bs,Gv _ _ (by simp at hln;omega)]
  simp only[bs,wN i (by omega)]
  rw[← iJ hx,MH]) (by
  show Us FF x _ _=_
  unfold Us
  rw[if_neg (by simp[len]),List.take_length]) FF 0 (by omega) (by rw[jD];omega)
 rw[List.take_zero,show((0:Nat):Int)=0 from rfl]at k
 have k':iter (fun s:List Int×Int=>Us FF x s.1 s.2) FF ([],0)=some (oM [] x.aB.aj):=k
 rw[k',bs]
 unfold q6h
 have hC:=(oL x.aB.aj [] (by simp))
 have k2:=dW (body:=fun s:List Int×Int=>Ut FF x s.1 s.2) (fun i=>(oO (oM [] x.aB.aj) (x.aB.aD.take i),(i:Int))) x.aB.aD.length (qI x.aB) (fun i hi=>by
  have hx:x.aB.aD[i]? = some x.aB.aD[i]:=gE hi
  have hln:=(oN (x.aB.aD.take i) _ hC.1).2.1
  have hC2:=hC.2.1
  rw[List.length_take]at hln
  show Ut FF x (oO (oM [] x.aB.aj) (x.aB.aD.take i)) (i:Int)=_
  unfold Ut q5w
  rw[if_pos (by simp[len];omega),bf hx,bs,← iJ hx,MI]
  by_cases hk:(x.aB.aD[i].Kind==20||x.aB.aD[i].Kind==6)=true
  ·rw[if_pos hk,if_pos hk,Gv _ _ (by simp at hC2;omega)]
   simp only[bs,wN i (by omega)]
  ·rw[if_neg hk,if_neg hk,wN i (by omega)]) (by
  show Ut FF x _ _=_
  unfold Ut
  rw[if_neg (by simp[len]),List.take_length]
  rfl) FF 0 (by omega) (by rw[jD];omega)
 rw[List.take_zero,show((0:Nat):Int)=0 from rfl]at k2
 have k2':iter (fun s:List Int×Int=>Ut FF x s.1 s.2) FF (oM [] x.aB.aj,0)=some (qI x.aB):=k2
 rw[k2']
 rfl
theorem LK(x:bJ)(h1:x.aB.aj.length≤1000000)(h2:x.aB.aD.length≤1000000)(hc:Ca x.aB):q1b FF x=some (if fU x.aB<16 then l5 x.aB else 0,decide (fU x.aB<16)):=by
 unfold q1b
 rw[EH x h1 h2,bs]
 have hl:=MG hc
 by_cases h16:fU x.aB<16
 ·rw[if_neg (df (show ¬ (len (qI x.aB)≥16) by rw[lN];omega)),if_pos h16,dt h16]
  obtain⟨v,f1,f2,f3,f4,f5⟩:=kD (m:=x.aB) (by omega)
  have hmem:=(xG x.aB).2.2
  have hlt:∀u,64≤u→u<v→gF x.aB u=true:=fun u hu huv=>by
   rw[List.find?_eq_some_iff_getElem]at f1
   obtain⟨_,i,hi,hiv,hbef⟩:=f1
   have yI:∀(j:Nat) (hj:j<nN.length),nN[j]=64+(j:Int):=fun j hj=>by simp[nN]
   have hcl:nN.length=64:=by simp[nN]
   rw[yI]at hiv
   have:=hbef (u-64).toNat (by omega)
   rw[yI]at this
   rw[show(64:Int)+((u-64).toNat:Int)=u by omega]at this
   simpa using this
  have loop:∀(k:Nat) (F:Nat) (u:Int),64≤u→u+k=v→k<F→iter (fun s=>WK FF (qI x.aB) s) F u=some v:=by
   intro k
   induction k with
   | zero=>
     intro F u h1' h2' hF
     cases F with
     | zero=>omega
     | succ F=>
       have:u=v:=by omega
       subst this
       refine aW ?_
       show WK FF _ u=_
       unfold WK
       rw[Rl _ _ (by omega),bs,if_neg (by
        rw[List.any_eq_true]
        rintro⟨y,hy,he⟩
        have:u=y:=by simpa using he
        subst this
        rw[(hmem u).1 hy]at f3
        cases f3)]
   | succ k ih=>
     intro F u h1' h2' hF
     cases F with
     | zero=>omega
     | succ F=>
       rw[bV (s':=u+1) (by
        show WK FF _ u=_
        unfold WK
        rw[Rl _ _ (by omega),bs,if_pos (by
         rw[List.any_eq_true]
         exact⟨u,(hmem u).2 (hlt u h1' (by omega)),by simp⟩),iW (by omega) (by omega)])]
       exact ih F (u+1) (by omega) (by omega) (by omega)
  rw[loop (v-64).toNat FF 64 (by omega) (by omega) (by rw[jD];omega),f2]
  rfl
 ·rw[if_pos (dt (show len (qI x.aB)≥16 by rw[lN];omega)),if_neg h16,decide_eq_false h16]
theorem vC(x:bJ):qz FF x=some (decide (len x.aB.Out≥64)):=rfl
theorem Xb(x:bJ)(hn:1≤x.aB.dB∧x.aB.dB≤255)(hA:x.aB.aD.length<255):q1q FF x=some (wR x.aB,wm x (jI x.aB)):=by
 unfold q1q
 have loop:∀(r:Nat) (F k:Nat) (n:Int),k+r=255→1≤n∧n≤256→(∃j,j<r∧x.aB.aD.any (fun s=>s.ID==Tg j (if n>255 then 1 else n))=false)→r<F→iter (fun s:Int×Int=>WI FF x s.1 s.2) F (n,(k:Int))=some (Ie x.aB.aD r (if n>255 then 1 else n)):=by
  intro r
  induction r with
  | zero=>intro F k n _ _ h _;obtain⟨j,hj,_⟩:=h;omega
  | succ r ih=>
    intro F k n hk hn' hex hF
    cases F with
    | zero=>omega
    | succ F=>
      have hb:WI FF x n (k:Int)=q45 FF x (k:Int) (if n>255 then 1 else n):=by
       unfold WI
       rw[if_pos (by simp;omega)]
       by_cases h:n>255
       ·rw[if_pos (by simp[h]),if_pos h]
       ·rw[if_neg (by simp;omega),if_neg h]
      generalize hq:(if n>255 then 1 else n)=q at *
      have hqr:1≤q∧q≤255:=by subst hq;split <;> omega
      unfold Ie
      have hb2:q45 FF x (k:Int) q=some (if x.aB.aD.any (fun s=>s.ID==q)=true then .next (q+1,((k+1:Nat):Int))else .done q):=by
       unfold q45
       rw[Vi _ q (by omega),bs]
       by_cases h:x.aB.aD.any (fun s=>s.ID==q)=true
       ·rw[if_neg (by simp[h]),if_pos h,bN (x:=q+1) (by omega) (by omega),wN k (by omega)]
       ·rw[if_pos (KF h),if_neg h]
      by_cases h:x.aB.aD.any (fun s=>s.ID==q)=true
      ·rw[if_pos h]at hb2
       have hb3:=hb.trans hb2
       rw[if_pos h,bV (s':=(q+1,((k+1:Nat):Int))) (by
        show WI FF x n (k:Int)=_
        rw[hb3])]
       have e:(if q+1>255 then 1 else q+1)=after q:=by unfold after;split <;> split <;> omega
       obtain⟨j,hj,hjb⟩:=hex
       have:=ih F (k+1) (q+1) (by omega) (by omega) (by
        rw[e]
        cases j with
        | zero=>rw[Tg]at hjb;rw[hjb]at h;cases h
        | succ j=>exact⟨j,by omega,hjb⟩) (by omega)
       rw[e]at this
       exact this
      ·rw[if_neg h]at hb2
       have hb3:=hb.trans hb2
       rw[if_neg h,aW (o:=q) (by
        show WI FF x n (k:Int)=_
        rw[hb3])]
 have hex:=J7 x.aB.aD x.aB.dB hn hA
 have k:=loop 255 FF 0 x.aB.dB rfl ⟨hn.1,by omega⟩ (by rw[if_neg (by omega)];exact hex) (by rw[jD];omega)
 rw[if_neg (by omega),show((0:Nat):Int)=0 from rfl]at k
 rw[k,bs]
 unfold q6i
 have hr:=uW x.aB.aD 255 x.aB.dB hn
 have e:aI (gI (Ie x.aB.aD 255 x.aB.dB) 255+1)=after (wR x.aB):=by
  unfold gI after wR
  rw[Int.tmod_eq_emod_of_nonneg (by omega),bN (by omega) (by omega)]
  split <;> omega
 rw[e]
 rfl
theorem Ae(x:bJ)(lG:Int)(b:List Int)(hb:b.length≤10000000)(ho:x.aB.Out.length≤1000000000):q1d FF x lG b=some (wm x (qd x.aB lG b)):=by
 unfold q1d
 rw[join_one FF b (by rw[jD];omega) (by omega),bs,dP (by simp;omega) (by omega)]
 rfl
theorem y8(s:aT):(Sg.iq s).length≤14:=by
 have:=Sg.vK s
 unfold Sg.iq
 simp;omega
theorem rR(x:bJ)(s:aT)(hs:oJ s)(ho:x.aB.Out.length≤1000000000):qe FF x s=some (wm x (jM x.aB s)):=by
 unfold qe
 have hl:=y8 s
 rw[Sg.TJ s ⟨hs.2.1,hs.2.2⟩,bs]
 unfold Sg.FJ
 rw[if_pos hs.1]
 simp only
 rw[if_pos (by simp),Ae x 5 _ (by omega) ho]
 rfl
theorem KH(x:bJ)(s:aT)(hs:oJ (fT s (wR x.aB)))(hn:1≤x.aB.dB∧x.aB.dB≤255)(hA:x.aB.aD.length<255)(ho:x.aB.Out.length≤1000000000):q1e FF x s=some (wm x (uf x.aB s)):=by
 unfold q1e
 rw[Xb x hn hA]
 simp only[bs]
 have e:=rR (wm x (jI x.aB)) (fT s (wR x.aB)) hs ho
 unfold fT at e
 rw[e,bs]
 have hAl:(wm (wm x (jI x.aB)) (jM (wm x (jI x.aB)).aB { s with ID:=wR x.aB })).aB.aD=x.aB.aD:=rfl
 rw[hAl,dP (by simp;omega) (by omega)]
 rfl
theorem uE(x:bJ)(e:gD)(he:x.events.length≤1000000000):qc FF x e=some { x with events:=x.events++[e] }:=by
 unfold qc
 rw[dP (by simp;omega) (by omega)]
 rfl
theorem QY(x:bJ)(i:Nat)(c:aS)(hc:x.aB.aj[i]? = some c)(hs:oJ (fT ⟨6,0,0,c.Local,c.Remote,0,0,0,0,⟨0,0,0,0,0⟩⟩ (wR x.aB)))(hn:1≤x.aB.dB∧x.aB.dB≤255)(hA:x.aB.aD.length<255)(ho:x.aB.Out.length≤1000000000):Uv FF x (i:Int)=some (wm x (nL x.aB c)):=by
 unfold Uv nL
 rw[bf hc,bs,l9 x c (by omega),bs]
 by_cases h:bO x.aB c.Local=true
 ·rw[if_neg (by simp[h]),if_pos h];rfl
 ·rw[if_pos (KF h),if_neg h,KH x _ hs hn hA ho];rfl
end V
namespace V
theorem rH{α:Type}{l:List α}{i:Nat}{x y:α}(h:l[i]? = some x):upd l (i:Int) y=some (l.set i y):=by
 have hlt:=(gS.1 h).1
 unfold upd
 rw[if_pos (by omega),Int.toNat_natCast]
end V
namespace V
def zu:jo:=⟨0,0,0,0,0⟩
structure MInv(k:Nat)(m:aL):Prop where
 J9:m.ak.length≤64
 NK:∀l∈m.ak,iL l.bZ=true∧iL l.cu=true∧countB l.aA=true
 next:1≤m.dB∧m.dB≤255
 ask:∀s∈m.aD,oJ s∧(s.Kind=20∨s.Kind=6∨s.Kind=18)
 xA:((m.aD.filter fun s=>s.Kind==20||s.Kind==6).map (·.Source)).Nodup
 yN:(m.aD.filter fun s=>s.Kind==18).length≤1
 MQ:m.aj.Pairwise fun a b=>a.Local<b.Local
 qE:∀c∈m.aj,Sd.Ok c
 xg:∀c∈m.aj,∀s∈m.aD,s.Kind=20→s.Source≠c.Local
 cnt:fU m≤16
 out:∀f∈m.Out,f.Payload.length≤4096∧1≤f.aU∧f.aU≤65535
 nZ:m.Out=[]→m.aR=0
 sent:∀f r,m.Out=f::r→0≤m.aR∧m.aR<4+f.Payload.length
 asm:Fr.Val m.ay
 jm:m.Out.length≤k
theorem lY{c:aS}(h:Sd.Ok c):(64≤c.Local∧c.Local≤127)∧64≤c.Remote∧c.Remote≤127:=by
 have:=h.ids;omega
theorem Pj{s:aT}(h:oJ s)(hk:s.Kind=20∨s.Kind=6):64≤s.Source∧s.Source≤127:=by
 obtain⟨_,_,_,_,_,h6⟩:=Sg.iQ h.1
 rcases h6 with h6 | ⟨h6,_⟩
 ·omega
 ·unfold Sg.gY at h6
  rcases hk with hk | hk
  ·rw[hk]at h6
   simp[Sg.aH,Sg.lF]at h6
   omega
  ·rw[hk]at h6
   simp[Sg.aH,Sg.lF]at h6
   omega
theorem MInv.ids{k:Nat}{m:aL}(h:MInv k m):Ca m:=⟨fun c hc=>(lY (h.qE c hc)).1,fun s hs hk=>Pj (h.ask s hs).1 hk⟩
theorem Ls{m:aL}(hc:Ca m){v:Int}(h:gF m v=true):v∈nN.filter (gF m):=by
 rw[List.mem_filter]
 exact⟨(BJ v).2 (DC hc h),h⟩
theorem MInv.qC{k:Nat}{m:aL}(h:MInv k m):m.aj.length≤16:=by
 have hn:(m.aj.map (·.Local)).Nodup:=by
  unfold List.Nodup
  rw[List.pairwise_map]
  exact h.MQ.imp fun h=>by omega
 have:=jB _ (nN.filter (gF m)) hn fun x hx=>by
  rw[List.mem_map]at hx
  obtain⟨c,hc,rfl⟩:=hx
  exact Ls h.ids ((dM m _).2 (.inl ⟨c,hc,rfl⟩))
 rw[List.length_map]at this
 have:=h.cnt
 unfold fU at this
 omega
theorem MR(l:List aT)(h:∀s∈l,s.Kind=20∨s.Kind=6∨s.Kind=18):l.length=(l.filter fun s=>s.Kind==20||s.Kind==6).length+(l.filter fun s=>s.Kind==18).length:=by
 induction l with
 | nil=>rfl
 | cons s l ih=>
   have h1:=ih fun x hx=>h x (by simp[hx])
   rcases h s (by simp)with hk | hk | hk <;> simp[List.filter_cons,hk] <;> omega
theorem MInv.sH{k:Nat}{m:aL}(h:MInv k m):m.aD.length≤17:=by
 have h1:=MR m.aD fun s hs=>(h.ask s hs).2
 have h2:=jB _ (nN.filter (gF m)) h.xA fun x hx=>by
  rw[List.mem_map]at hx
  obtain⟨s,hs,rfl⟩:=hx
  rw[List.mem_filter]at hs
  exact Ls h.ids ((dM m _).2 (.inr ⟨s,hs.1,by simpa using hs.2,rfl⟩))
 rw[List.length_map]at h2
 have h3:=h.cnt
 have h4:=h.yN
 unfold fU at h3
 omega
theorem MInv.sz{k:Nat}{m:aL}(h:MInv k m)(hk:k≤1000000000):Sz m:=by
 have h1:=h.J9
 have h2:=h.sH
 have h3:=h.qC
 have h4:=h.jm
 have h5:=h.asm.len
 exact⟨by omega,by omega,by omega,by omega,fun c hc=>by have h:=(h.qE c hc).sm;exact⟨h.out,h.inn⟩,fun c hc=>(h.qE c hc).sm.each,fun f hf=>by have:=(h.out f hf).1;omega,by omega⟩
theorem MInv.more{k n:Nat}{m:aL}(h:MInv k m)(hn:k≤n):MInv n m:={ h with jm:=Nat.le_trans h.jm hn }
theorem rG{m m':aL}(h:∀v,gF m' v=true→gF m v=true):fU m'≤fU m:=by
 unfold fU
 refine jB _ _ (tX.filter _) fun x hx=>?_
 rw[List.mem_filter]at hx ⊢
 exact⟨hx.1,h x hx.2⟩
theorem CP{m m':aL}(w:Int)(h:∀v,gF m' v=true→gF m v=true∨v=w):fU m'≤fU m+1:=by
 unfold fU
 have:=jB (nN.filter (gF m')) (w::nN.filter (gF m)) (tX.filter _) fun x hx=>by
  rw[List.mem_filter]at hx
  rcases h x hx.2 with h1 | rfl
  ·exact List.mem_cons_of_mem _ (by rw[List.mem_filter];exact⟨hx.1,h1⟩)
  ·exact List.mem_cons_self ..
 rwa [List.length_cons]at this
theorem MInv.qd{k:Nat}{m:aL}(h:MInv k m){lG:Int}{b:List Int}(hb:b.length≤4096)(hc:1≤lG∧lG≤65535):MInv (k+1) (qd m lG b):=by
 refine⟨h.J9,h.NK,h.next,h.ask,h.xA,h.yN,h.MQ,h.qE,h.xg,h.cnt,?_,?_,?_,h.asm,?_⟩
 ·intro f hf
  rcases List.mem_append.1 hf with hf | hf
  ·exact h.out f hf
  ·rw[List.mem_singleton]at hf
   subst hf
   exact⟨hb,hc⟩
 ·intro e
  exact absurd (congrArg List.length e) (by simp[V.qd])
 ·intro f r e
  cases ho:m.Out with
  | nil=>
    have h1:=h.nZ ho
    show 0≤m.aR∧m.aR<_
    rw[h1]
    omega
  | cons g t=>
    have h1:=h.sent g t ho
    have e':m.Out++[⟨lG,b⟩]=f::r:=e
    rw[ho,List.cons_append]at e'
    injection e' with e1 _
    subst e1
    exact h1
 ·show(m.Out++[_]).length≤k+1
  have:=h.jm
  simp;omega
theorem MInv.say{k:Nat}{m:aL}(h:MInv k m)(s:aT):MInv (k+1) (jM m s):=h.qd (by have:=y8 s;omega) ⟨by decide,by decide⟩
theorem MInv.tick{k:Nat}{m:aL}(h:MInv k m):MInv k (jI m):=
 ⟨h.J9,h.NK,xB (uW m.aD 255 m.dB h.next),h.ask,h.xA,h.yN,h.MQ,h.qE,h.xg,h.cnt,h.out,h.nZ,h.sent,h.asm,h.jm⟩
theorem MInv.asked{k:Nat}{m:aL}(h:MInv k m){s:aT}(hs:oJ s)(hk:(s.Kind=20∧gF m s.Source=false∧fU m<16)∨(s.Kind=6∧bO m s.Source=false∧∃c∈m.aj,c.Local=s.Source)∨(s.Kind=18∧m.aD.any (fun s=>s.Kind==18)=false)):MInv k { m with aD:=m.aD++[s] }:=by
 have hu:∀v,gF { m with aD:=m.aD++[s] } v=true↔gF m v=true∨((s.Kind=20∨s.Kind=6)∧s.Source=v):=fun v=>by
  rw[dM,dM]
  simp only[List.mem_append,List.mem_singleton]
  constructor
  ·rintro(h | ⟨t,ht | rfl,hq⟩)
   ·exact .inl (.inl h)
   ·exact .inl (.inr ⟨t,ht,hq⟩)
   ·exact .inr hq
  ·rintro((h | ⟨t,ht,hq⟩) | hq)
   ·exact .inl h
   ·exact .inr ⟨t,.inl ht,hq⟩
   ·exact .inr ⟨s,.inr rfl,hq⟩
 have hnew:∀t∈m.aD,(t.Kind=20∨t.Kind=6)→(s.Kind=20∨s.Kind=6)→t.Source≠s.Source:=fun t ht htk hsk e=>by
  rcases hk with⟨_,h2,_⟩ | ⟨h1,h2,c,hc,h3⟩ | ⟨h1,_⟩
  ·have:=(dM m s.Source).2 (.inr ⟨t,ht,htk,e⟩)
   rw[h2]at this
   cases this
  ·rcases htk with htk | htk
   ·exact h.xg c hc t ht htk (by rw[e,h3])
   ·unfold bO at h2
    rw[List.any_eq_false]at h2
    exact h2 t ht (by simp[htk,e])
  ·omega
 refine⟨h.J9,h.NK,h.next,?_,?_,?_,h.MQ,h.qE,?_,?_,h.out,h.nZ,h.sent,h.asm,h.jm⟩
 ·intro t ht
  rcases List.mem_append.1 ht with ht | ht
  ·exact h.ask t ht
  ·rw[List.mem_singleton]at ht
   subst ht
   refine⟨hs,?_⟩
   rcases hk with⟨h1,_⟩ | ⟨h1,_⟩ | ⟨h1,_⟩
   ·exact .inl h1
   ·exact .inr (.inl h1)
   ·exact .inr (.inr h1)
 ·show(((m.aD++[s]).filter _).map _).Nodup
  rw[List.filter_append,List.map_append,List.nodup_append]
  refine⟨h.xA,?_,?_⟩
  ·cases hq:(s.Kind==20||s.Kind==6) <;> simp[List.filter_cons,hq]
  ·intro a ha b hb e
   rw[List.mem_map]at ha hb
   obtain⟨t,ht,rfl⟩:=ha
   obtain⟨u,hu,rfl⟩:=hb
   rw[List.mem_filter]at ht hu
   have:u=s:=by simpa using hu.1
   subst this
   exact hnew t ht.1 (by simpa using ht.2) (by simpa using hu.2) e
 ·show((m.aD++[s]).filter _).length≤1
  rw[List.filter_append,lA]
  have:=h.yN
  by_cases hq:(s.Kind==18)=true
  ·have hq':s.Kind=18:=by simpa using hq
   rcases hk with⟨h1,_⟩ | ⟨h1,_⟩ | ⟨_,h2⟩
   ·omega
   ·omega
   ·have:m.aD.filter (fun s=>s.Kind==18)=[]:=by
     rw[List.filter_eq_nil_iff]
     rw[List.any_eq_false]at h2
     exact h2
    rw[this]
    simp[List.filter_cons,hq]
  ·simp[List.filter_cons,hq]
   exact this
 ·intro c hc t ht htk
  rcases List.mem_append.1 ht with ht | ht
  ·exact h.xg c hc t ht htk
  ·rw[List.mem_singleton]at ht
   subst ht
   intro e
   rcases hk with⟨_,h2,_⟩ | ⟨h1,_⟩ | ⟨h1,_⟩
   ·have:=(dM m t.Source).2 (.inl ⟨c,hc,e.symm⟩)
    rw[h2]at this
    cases this
   ·omega
   ·omega
 ·have h16:=h.cnt
  rcases hk with⟨h1,h2,h3⟩ | ⟨h1,h2,c,hc,h3⟩ | ⟨h1,h2⟩
  ·have:=CP (m:=m) (m':={ m with aD:=m.aD++[s] }) s.Source fun v hv=>by
    rcases(hu v).1 hv with h | ⟨_,h⟩
    ·exact .inl h
    ·exact .inr h.symm
   omega
  ·have:=rG (m:=m) (m':={ m with aD:=m.aD++[s] }) fun v hv=>by
    rcases(hu v).1 hv with h | ⟨_,h⟩
    ·exact h
    ·exact(dM m v).2 (.inl ⟨c,hc,by rw[h3,h]⟩)
   omega
  ·have:=rG (m:=m) (m':={ m with aD:=m.aD++[s] }) fun v hv=>by
    rcases(hu v).1 hv with h | ⟨h,_⟩
    ·exact h
    ·omega
   omega
theorem MInv.uf{k:Nat}{m:aL}(h:MInv k m){s:aT}(hs:oJ (fT s (wR m)))(hk:(s.Kind=20∧gF m s.Source=false∧fU m<16)∨(s.Kind=6∧bO m s.Source=false∧∃c∈m.aj,c.Local=s.Source)∨(s.Kind=18∧m.aD.any (fun s=>s.Kind==18)=false)):MInv (k+1) (uf m s):=
 (h.tick.say (fT s (wR m))).asked hs hk
theorem mX{k:Nat}{m:aL}(h:MInv k m):1≤wR m∧wR m≤255:=uW m.aD 255 m.dB h.next
theorem KY{id psm src sP mps cr:Int}(hi:1≤id∧id≤255)(hp:1≤psm∧psm≤65535)(hs:64≤src∧src≤127)(h1:iL sP=true)(h2:iL mps=true)(h3:countB cr=true):oJ ⟨20,id,psm,src,0,sP,mps,cr,0,zu⟩:=by
 refine⟨?_,by simp only;omega,by simp only;omega⟩
 unfold iL at h1 h2
 unfold countB at h3
 simp only[Bool.and_eq_true,decide_eq_true_eq]at h1 h2 h3
 unfold Sg.vY
 rw[if_neg (by simp[Sg.aH]),if_neg (by simp;omega),if_neg (by simp[Sg.eU,Sg.aH,Sg.wu,zu]),if_neg (by simp[Sg.j4,Sg.aH]),if_neg (by simp),if_neg (by simp[Sg.aH];omega),if_neg (by simp[Sg.gY,Sg.aH,Sg.lG,Sg.V9];omega),if_neg (by simp[Sg.aH])]
theorem EO{id src dst:Int}(hi:1≤id∧id≤255)(hs:64≤src∧src≤127)(hd:64≤dst∧dst≤127)(kd:Int)(hk:kd=6∨kd=7):oJ ⟨kd,id,0,src,dst,0,0,0,0,zu⟩:=by
 refine⟨?_,by simp only;omega,by simp only;omega⟩
 unfold Sg.vY
 rcases hk with rfl | rfl
 ·rw[if_neg (by simp[Sg.aH]),if_neg (by simp;omega),if_neg (by simp[Sg.eU,Sg.aH,Sg.wu,zu]),if_neg (by simp[Sg.j4,Sg.aH]),if_neg (by simp),if_neg (by simp[Sg.aH]),if_neg (by simp[Sg.gY,Sg.aH,Sg.lG];omega),if_neg (by simp[Sg.aH])]
 ·rw[if_neg (by simp[Sg.aH]),if_neg (by simp;omega),if_neg (by simp[Sg.eU,Sg.aH,Sg.wu,zu]),if_neg (by simp[Sg.j4,Sg.aH]),if_neg (by simp),if_neg (by simp[Sg.aH]),if_neg (by simp[Sg.gY,Sg.aH,Sg.lG];omega),if_neg (by simp[Sg.aH])]
theorem KW{id:Int}{u:jo}(hi:1≤id∧id≤255)(hu:Sg.mJ u=0):oJ ⟨18,id,0,0,0,0,0,0,0,u⟩:=by
 refine⟨?_,by simp only;omega,by simp only;omega⟩
 unfold Sg.vY
 rw[if_neg (by simp[Sg.aH]),if_neg (by simp;omega),if_neg (by simp[Sg.eU,Sg.aH]),if_neg (by simp[Sg.j4,Sg.aH]),if_neg (by simp),if_neg (by simp[Sg.aH]),if_neg (by simp[Sg.gY,Sg.aH]),if_pos (by simp[Sg.aH]),hu]
theorem rP{id r:Int}(hi:1≤id∧id≤255)(kd:Int)(hk:(kd=19∧(r=0∨r=1))∨(kd=1∧(r=0∨r=2))):oJ ⟨kd,id,0,0,0,0,0,0,r,zu⟩:=by
 refine⟨?_,by simp only;omega,by simp only;omega⟩
 unfold Sg.vY
 rcases hk with⟨rfl,h⟩ | ⟨rfl,h⟩
 ·rw[if_neg (by simp[Sg.aH]),if_neg (by simp;omega),if_neg (by simp[Sg.eU,Sg.aH,Sg.wu,zu]),if_neg (by simp[Sg.j4,Sg.aH];omega),if_neg (by simp),if_neg (by simp[Sg.aH]),if_neg (by simp[Sg.gY,Sg.aH]),if_neg (by simp[Sg.aH])]
 ·rw[if_neg (by simp[Sg.aH]),if_neg (by simp;omega),if_neg (by simp[Sg.eU,Sg.aH,Sg.wu,zu]),if_neg (by simp[Sg.j4,Sg.aH];omega),if_neg (by simp),if_neg (by simp[Sg.aH]),if_neg (by simp[Sg.gY,Sg.aH]),if_neg (by simp[Sg.aH])]
end V
namespace V
theorem FFk:5000<FF∧100000<FF∧1000<FF:=by decide
theorem wT(m:aL)(n:Int):(Az m n = -1∧m.aj.any (fun c=>c.Local==n)=false)∨∃(i:Nat) (c:aS),Az m n=(i:Int)∧m.aj[i]? = some c∧c.Local=n:=by
 rcases tN (fun c:aS=>c.Local==n) m.aj with h | ⟨i,c,h1,h2,h3,_⟩
 ·exact .inl h
 ·exact .inr ⟨i,c,h1,h2,by simpa using h3⟩
theorem Nk(m:aL)(n:Int):(ET m n = -1∧m.aj.any (fun c=>c.Remote==n)=false)∨∃(i:Nat) (c:aS),ET m n=(i:Int)∧m.aj[i]? = some c∧c.Remote=n:=by
 rcases tN (fun c:aS=>c.Remote==n) m.aj with h | ⟨i,c,h1,h2,h3,_⟩
 ·exact .inl h
 ·exact .inr ⟨i,c,h1,h2,by simpa using h3⟩
theorem MInv.chans{k:Nat}{m:aL}(h:MInv k m){l:List aS}(hl:l.map (·.Local)=m.aj.map (·.Local))(hok:∀c∈l,Sd.Ok c):MInv k { m with aj:=l }:=by
 have hm:∀v,(∃c∈l,c.Local=v)↔∃c∈m.aj,c.Local=v:=fun v=>by
  have h1:v∈l.map (·.Local)↔v∈m.aj.map (·.Local):=by rw[hl]
  simpa only[List.mem_map]using h1
 refine⟨h.J9,h.NK,h.next,h.ask,h.xA,h.yN,?_,hok,?_,?_,h.out,h.nZ,h.sent,h.asm,h.jm⟩
 ·have h1:=h.MQ
  rw[← List.pairwise_map (f:=fun c:aS=>c.Local) (R:=(· < ·))]at h1
  have h2:(l.map (·.Local)).Pairwise (· < ·):=by rw[hl];exact h1
  rwa [List.pairwise_map]at h2
 ·intro c hc s hs hk
  obtain⟨c',hc',he⟩:=(hm c.Local).1 ⟨c,hc,rfl⟩
  rw[← he]
  exact h.xg c' hc' s hs hk
 ·refine Nat.le_trans (rG fun v hv=>?_) h.cnt
  rw[dM]at hv ⊢
  rcases hv with hv | hv
  ·exact .inl ((hm v).1 hv)
  ·exact .inr hv
theorem map_set{l:List aS}{i:Nat}{c c':aS}(hc:l[i]? = some c)(he:c'.Local=c.Local):(l.set i c').map (·.Local)=l.map (·.Local):=by
 apply List.ext_getElem?
 intro j
 rw[List.getElem?_map,List.getElem?_map,List.getElem?_set]
 by_cases hj:i=j
 ·subst hj
  have hlt:=(gS.1 hc).1
  rw[if_pos rfl,if_pos hlt,hc]
  simp[he]
 ·rw[if_neg hj]
theorem MInv.put{k:Nat}{m:aL}(h:MInv k m){i:Nat}{c c':aS}(hc:m.aj[i]? = some c)(hok:Sd.Ok c')(he:c'.Local=c.Local):MInv k (gy m i c'):=
 h.chans (map_set hc he) fun d hd=>by
  rcases List.mem_or_eq_of_mem_set hd with hd | rfl
  ·exact h.qE d hd
  ·exact hok
theorem Lj(x:bJ)(n:Int)(h1:x.aB.aj.length≤1000000)(h2:x.aB.aD.length≤1000000):q31 FF x n=some (if Az x.aB n<0 then(0,6)else if bO x.aB n=true then(0,9)else(Az x.aB n,0)):=by
 unfold q31
 rw[u7 x n h1,bs]
 rcases wT x.aB n with⟨h,_⟩ | ⟨i,c,h,hc,hn⟩
 ·rw[h,if_pos (by decide),if_pos (by decide)]
 ·rw[h,if_neg (df (by omega)),if_neg (by omega),bf hc,bs,l9 x c h2,bs,hn]
  by_cases hb:bO x.aB n=true
  ·rw[if_pos hb,if_pos hb]
  ·rw[if_neg hb,if_neg hb]
theorem MInv.nL{k:Nat}{m:aL}(h:MInv k m){c:aS}(hc:c∈m.aj):oJ (fT ⟨6,0,0,c.Local,c.Remote,0,0,0,0,⟨0,0,0,0,0⟩⟩ (wR m))∧MInv (k+1) (nL m c):=by
 have hi:=lY (h.qE c hc)
 have hs:oJ (fT ⟨6,0,0,c.Local,c.Remote,0,0,0,0,⟨0,0,0,0,0⟩⟩ (wR m)):=EO (mX h) hi.1 hi.2 6 (.inl rfl)
 refine⟨hs,?_⟩
 unfold V.nL
 split
 ·exact h.more (by omega)
 ·rename_i hb
  exact h.uf hs (.inr (.inl ⟨rfl,(Bool.not_eq_true _).mp hb,c,hc,rfl⟩))
end V
namespace V
def Np(l:List aS)(fr:List (List (List Int)))(rd:Nat)(m:aL)(i:Nat):aL:=match fr[i]?,l[i]? with
 | some f,some c=>(match f[rd]? with
   | some b=>qd m c.Remote b
   | none=>m)
 | _,_=>m
def fK(l:List aS)(fr:List (List (List Int)))(rd:Nat)(m:aL)(n:Nat):aL:=(List.range n).foldl (Np l fr rd) m
def iX(l:List aS)(fr:List (List (List Int)))(m:aL)(n:Nat):aL:=(List.range n).foldl (fun m rd=>fK l fr rd m fr.length) m
theorem mQ(l:List aS)(fr:List (List (List Int)))(rd:Nat)(m:aL)(n:Nat):fK l fr rd m (n+1)=Np l fr rd (fK l fr rd m n) n:=by
 unfold fK
 rw[List.range_succ,List.foldl_append]
 rfl
theorem lD(l:List aS)(fr:List (List (List Int)))(m:aL)(n:Nat):iX l fr m (n+1)=fK l fr n (iX l fr m n) fr.length:=by
 unfold iX
 rw[List.range_succ,List.foldl_append]
 rfl
theorem Ui{k:Nat}{m:aL}(h:MInv k m){l:List aS}(hl:∀c∈l,Sd.Ok c){fr:List (List (List Int))}(hf:∀f∈fr,∀b∈f,b.length≤4096)(rd i:Nat):MInv (k+1) (Np l fr rd m i)∧(Np l fr rd m i).aj=m.aj:=by
 unfold Np
 split
 ·rename_i f c h1 h2
  split
  ·rename_i b h3
   have hi:=lY (hl c (List.mem_of_getElem? h2))
   exact⟨h.qd (hf f (List.mem_of_getElem? h1) b (List.mem_of_getElem? h3)) (by omega),rfl⟩
  ·exact⟨h.more (by omega),rfl⟩
 ·exact⟨h.more (by omega),rfl⟩
theorem tq{k:Nat}{m:aL}(h:MInv k m){l:List aS}(hl:∀c∈l,Sd.Ok c){fr:List (List (List Int))}(hf:∀f∈fr,∀b∈f,b.length≤4096)(rd:Nat):∀n,MInv (k+n) (fK l fr rd m n)∧(fK l fr rd m n).aj=m.aj
 | 0=>⟨h,rfl⟩
 | n+1=>by
   obtain⟨h1,h2⟩:=tq h hl hf rd n
   rw[mQ]
   obtain⟨h3,h4⟩:=Ui h1 hl hf rd n
   exact⟨h3,h4.trans h2⟩
theorem qO{k:Nat}{m:aL}(h:MInv k m){l:List aS}(hl:∀c∈l,Sd.Ok c){fr:List (List (List Int))}(hf:∀f∈fr,∀b∈f,b.length≤4096):∀n,MInv (k+n*fr.length) (iX l fr m n)∧(iX l fr m n).aj=m.aj
 | 0=>by rw[Nat.zero_mul];exact⟨h,rfl⟩
 | n+1=>by
   obtain⟨h1,h2⟩:=qO h hl hf n
   rw[lD]
   obtain⟨h3,h4⟩:=tq h1 hl hf n fr.length
   rw[Nat.succ_mul,← Nat.add_assoc]
   exact⟨h3,h4.trans h2⟩
end V
namespace V
def lim(m:aL):Int:=if m.Length<27 then 27 else if m.Length>251 then 251 else m.Length
def toM(m:aL)(f:bM):Int:=min ((f.Payload.length:Int)+4) (m.aR+lim m)
theorem Fq(m:aL):27≤lim m∧lim m≤251:=by unfold lim;split <;> (try split) <;> omega
theorem MInv.outs{k:Nat}{m:aL}(h:MInv k m){o:List bM}{s:Int}(h1:∀f∈o,f∈m.Out)(h2:o.length≤m.Out.length)(h3:o=[]→s=0)(h4:∀f r,o=f::r→0≤s∧s<4+f.Payload.length):MInv k { m with Out:=o,aR:=s }:=
 ⟨h.J9,h.NK,h.next,h.ask,h.xA,h.yN,h.MQ,h.qE,h.xg,h.cnt,fun f hf=>h.out f (h1 f hf),h3,h4,h.asm,Nat.le_trans h2 h.jm⟩
def Uw(m:aL)(f:bM):eT:=⟨if m.aR=0 then 2 else 1,((Fr.bytesOf f).take (toM m f).toNat).drop m.aR.toNat⟩
def jL(m:aL)(f:bM)(r:List bM):aL:=if toM m f=(f.Payload.length:Int)+4 then { m with Out:=r,aR:=0 }else { m with aR:=toM m f }
end V
namespace V
def nA(a b:aT):Bool:=(a.ID==b.ID)&&(if a.Kind=20 then((b.Kind==21)||(b.Kind==1))else if a.Kind=6 then((b.Kind==1)||(((b.Kind==7)&&(b.Source==a.Source))&&(b.bR==a.bR)))else if a.Kind=18 then((b.Kind==19)||(b.Kind==1))else false)
theorem Z7(F:Nat)(a b:aT):q4i F a b=some (nA a b):=by
 unfold q4i nA
 by_cases hi:a.ID=b.ID
 ·rw[if_neg (by simp[hi])]
  by_cases h1:a.Kind=20
  ·simp[h1,hi]
  ·by_cases h2:a.Kind=6
   ·simp[h2,hi]
   ·by_cases h3:a.Kind=18
    ·simp[h3,hi]
    ·simp[h1,h2,h3]
 ·rw[if_pos (by simpa using hi)]
  simp[hi]
def zs:aT:=⟨0,0,0,0,0,0,0,0,0,⟨0,0,0,0,0⟩⟩
def qD{α:Type}(l:List α)(i:Nat):List α:=l.take i++l.drop (i+1)
theorem yT{α:Type}(l:List α)(i:Nat):(qD l i).Sublist l:=by
 unfold qD
 rw[← List.eraseIdx_eq_take_drop_succ]
 exact List.eraseIdx_sublist l i
def jY(c:aS):List aS→List aS
 | []=>[c]
 | d::l=>if d.Local<c.Local then d::jY c l else c::d::l
def xk(c:aS):List aS→Nat
 | []=>0
 | d::l=>if d.Local<c.Local then xk c l+1 else 0
theorem L6(c:aS):∀l,xk c l≤l.length
 | []=>Nat.le_refl _
 | d::l=>by
   have:=L6 c l
   unfold xk
   split
   ·rw[List.length_cons];omega
   ·omega
theorem IB(c:aS):∀l,l.take (xk c l)++[c]++l.drop (xk c l)=jY c l
 | []=>rfl
 | d::l=>by
   unfold xk jY
   split
   ·rw[List.take_succ_cons,List.drop_succ_cons,List.cons_append,List.cons_append,IB c l]
   ·rfl
theorem oo(c:aS):∀(l:List aS) (d:aS),d∈jY c l↔d=c∨d∈l
 | [],d=>by simp[jY]
 | e::l,d=>by
   unfold jY
   split
   ·rw[List.mem_cons,oo c l d,List.mem_cons]
    constructor
    ·rintro(h | h | h)
     ·exact .inr (.inl h)
     ·exact .inl h
     ·exact .inr (.inr h)
    ·rintro(h | h | h)
     ·exact .inr (.inl h)
     ·exact .inl h
     ·exact .inr (.inr h)
   ·rw[List.mem_cons]
theorem Iz(c:aS):∀(l:List aS),l.Pairwise (fun a b=>a.Local<b.Local)→(∀d∈l,d.Local≠c.Local)→(jY c l).Pairwise (fun a b=>a.Local<b.Local)
 | [],_,_=>by simp[jY]
 | e::l,h,hn=>by
   rw[List.pairwise_cons]at h
   unfold jY
   split
   ·rename_i hlt
    rw[List.pairwise_cons]
    refine⟨fun d hd=>?_,Iz c l h.2 fun d hd=>hn d (by simp[hd])⟩
    rcases(oo c l d).1 hd with rfl | hd
    ·exact hlt
    ·exact h.1 d hd
   ·rename_i hge
    have he:=hn e (by simp)
    rw[List.pairwise_cons]
    refine⟨fun d hd=>?_,by rw[List.pairwise_cons];exact h⟩
    rcases List.mem_cons.1 hd with rfl | hd
    ·omega
    ·have:=h.1 d hd
     omega
theorem at_loop(x:bJ)(c:aS)(hn:x.aB.aj.length≤1000):∀(l:List aS) (k f:Nat),x.aB.aj.drop k=l→k≤x.aB.aj.length→l.length<f→iter (fun s=>SY FF x c s) f (k:Int)=some ((k+xk c l:Nat):Int)
 | [],k,f,hd,hk,hf=>by
   have hk2:k=x.aB.aj.length:=by
    have:=congrArg List.length hd
    rw[List.length_drop,List.length_nil]at this
    omega
   cases f with
   | zero=>omega
   | succ f=>
     refine aW ?_
     show SY FF x c (k:Int)=_
     unfold SY q4t
     rw[if_neg (df (by rw[lN];omega)),if_neg (by simp)]
     rfl
 | d::l,k,f,hd,hk,hf=>by
   have hx:x.aB.aj[k]? = some d:=by
    have:=congrArg (fun z:List aS=>z[0]?) hd
    simpa using this
   have hlt:=(gS.1 hx).1
   have hd2:x.aB.aj.drop (k+1)=l:=by
    have:=congrArg List.tail hd
    simpa using this
   cases f with
   | zero=>simp at hf
   | succ f=>
     unfold xk
     by_cases h:d.Local<c.Local
     ·rw[if_pos h,bV (s':=((k+1:Nat):Int)) (by
       show SY FF x c (k:Int)=_
       unfold SY q4t
       rw[if_pos (dt (by rw[lN];omega)),bf hx,bs,if_pos (dt h),wN k (by omega)]),at_loop x c hn l (k+1) f hd2 hlt (by simp at hf;omega),show k+1+xk c l=k+(xk c l+1) by omega]
     ·rw[if_neg h]
      refine aW ?_
      show SY FF x c (k:Int)=_
      unfold SY q4t
      rw[if_pos (dt (by rw[lN];omega)),bf hx,bs,if_neg (df h)]
      rfl
theorem Sk(x:bJ)(c:aS)(hn:x.aB.aj.length≤1000)(he:x.events.length≤1000):q2z FF x c=some ⟨{ x.aB with aj:=jY { c with Want:=-1 } x.aB.aj },x.events++[⟨2,c.Local,[],0,zu,0⟩]⟩:=by
 unfold q2z
 have k:=at_loop x c hn x.aB.aj 0 FF (by simp) (by omega) (by rw[jD];omega)
 rw[show((0:Nat):Int)=0 from rfl,Nat.zero_add]at k
 rw[k,bs]
 unfold q79 q4s
 have hle:=L6 c x.aB.aj
 have hcc:∀l,xk c l=xk { c with Want:=-1 } l:=by
  intro l
  induction l with
  | nil=>rfl
  | cons d l ih=>unfold xk;rw[ih]
 rw[if_pos (by refine⟨by omega,by omega,rfl,by omega⟩),bs,Int.toNat_natCast,hcc,IB]
 unfold q78 q77
 rw[uE _ _ (by simp only;omega)]
 rfl
theorem Dj(x:bJ)(i:Nat)(c:aS)(hc:x.aB.aj[i]? = some c)(hn:x.aB.aj.length≤1000)(he:x.events.length≤1000):q2w FF x (i:Int)=some ⟨{ x.aB with aj:=qD x.aB.aj i },x.events++[⟨4,c.Local,[],0,zu,0⟩]⟩:=by
 have hlt:=(gS.1 hc).1
 unfold q2w q4k
 rw[bf hc,bs,wN i (by omega),if_pos (by omega),bs,uE _ _ (by simp only;omega)]
 rfl
theorem MInv.drop{k:Nat}{m:aL}(h:MInv k m)(i:Nat):MInv k { m with aD:=qD m.aD i }:=by
 have hs:=yT m.aD i
 have hm:∀s∈qD m.aD i,s∈m.aD:=fun s hq=>hs.subset hq
 refine⟨h.J9,h.NK,h.next,fun s hq=>h.ask s (hm s hq),?_,?_,h.MQ,h.qE,fun c hc s hq=>h.xg c hc s (hm s hq),?_,h.out,h.nZ,h.sent,h.asm,h.jm⟩
 ·exact List.Pairwise.sublist ((hs.filter _).map _) h.xA
 ·exact Nat.le_trans (hs.filter _).length_le h.yN
 ·refine Nat.le_trans (rG fun v hv=>?_) h.cnt
  rw[dM]at hv ⊢
  rcases hv with hv | ⟨s,hq,hr⟩
  ·exact .inl hv
  ·exact .inr ⟨s,hm s hq,hr⟩
theorem MInv.shut{k:Nat}{m:aL}(h:MInv k m)(i:Nat):MInv k { m with aj:=qD m.aj i }:=by
 have hs:=yT m.aj i
 have hm:∀s∈qD m.aj i,s∈m.aj:=fun s hq=>hs.subset hq
 refine⟨h.J9,h.NK,h.next,h.ask,h.xA,h.yN,List.Pairwise.sublist hs h.MQ,fun c hc=>h.qE c (hm c hc),fun c hc=>h.xg c (hm c hc),?_,h.out,h.nZ,h.sent,h.asm,h.jm⟩
 refine Nat.le_trans (rG fun v hv=>?_) h.cnt
 rw[dM]at hv ⊢
 rcases hv with⟨c,hc,hr⟩ | hv
 ·exact .inl ⟨c,hm c hc,hr⟩
 ·exact .inr hv
theorem MInv.add{k:Nat}{m:aL}(h:MInv k m){c:aS}(hc:Sd.Ok c)(h1:∀d∈m.aj,d.Local≠c.Local)(h2:∀s∈m.aD,s.Kind=20→s.Source≠c.Local)(h3:fU { m with aj:=jY c m.aj }≤16):MInv k { m with aj:=jY c m.aj }:=by
 refine⟨h.J9,h.NK,h.next,h.ask,h.xA,h.yN,Iz c _ h.MQ h1,fun d hd=>?_,fun d hd=>?_,h3,h.out,h.nZ,h.sent,h.asm,h.jm⟩
 ·rcases(oo c _ d).1 hd with rfl | hd
  ·exact hc
  ·exact h.qE d hd
 ·rcases(oo c _ d).1 hd with rfl | hd
  ·exact h2
  ·exact h.xg d hd
theorem KR(m:aL)(c:aS)(v:Int):gF { m with aj:=jY c m.aj } v=true↔gF m v=true∨v=c.Local:=by
 rw[dM,dM]
 simp only[oo]
 constructor
 ·rintro(⟨d,rfl | hd,rfl⟩ | h)
  ·exact .inr rfl
  ·exact .inl (.inl ⟨d,hd,rfl⟩)
  ·exact .inl (.inr h)
 ·rintro((⟨d,hd,rfl⟩ | h) | rfl)
  ·exact .inl ⟨d,.inr hd,rfl⟩
  ·exact .inr h
  ·exact .inl ⟨c,.inl rfl,rfl⟩
theorem GQ{k:Nat}{m:aL}(h:MInv k m){i:Nat}{r:aT}(hr:m.aD[i]? = some r)(hk:r.Kind=20):∀s∈qD m.aD i,(s.Kind=20∨s.Kind=6)→s.Source≠r.Source:=by
 have hlt:=(gS.1 hr).1
 have he:m.aD=m.aD.take i++r::m.aD.drop (i+1):=by
  have h1:m.aD.drop i=r::m.aD.drop (i+1):=by
   rw[List.drop_eq_getElem_cons hlt]
   rw[gE hlt]at hr
   injection hr with hr
   rw[hr]
  rw[← h1,List.take_append_drop]
 have hn:=h.xA
 rw[he,List.filter_append,List.map_append,List.filter_cons,if_pos (by simp[hk]),List.map_cons,List.nodup_append,List.nodup_cons]at hn
 obtain⟨_,⟨n1,_⟩,n2⟩:=hn
 intro s hs hsk e
 have hp:(s.Kind==20||s.Kind==6)=true:=by simpa using hsk
 unfold qD at hs
 rcases List.mem_append.1 hs with hs | hs
 ·exact n2 s.Source (List.mem_map.2 ⟨s,List.mem_filter.2 ⟨hs,hp⟩,rfl⟩) r.Source (by simp) e
 ·exact n1 (List.mem_map.2 ⟨s,List.mem_filter.2 ⟨hs,hp⟩,e⟩)
end V
namespace V
def DJ(k c r:Int)(i:Int):gD:=⟨k,c,[],r,zu,i⟩
theorem KC{s:aT}(h:oJ s)(hk:s.Kind=20∨(s.Kind=21∧s.Result=0)):(64≤s.Source∧s.Source≤127)∧(23≤s.bZ∧s.bZ≤4096)∧(23≤s.cu∧s.cu≤4096)∧(0≤s.aA∧s.aA≤65535)∧(s.Kind=20→s.bU≠0):=by
 have h0:=h.1
 unfold Sg.vY at h0
 split at h0
 ·cases h0
 split at h0
 ·cases h0
 split at h0
 ·cases h0
 split at h0
 ·cases h0
 rcases hk with hk | ⟨hk,hr⟩
 ·rw[if_neg (by rw[hk];simp)]at h0
  split at h0
  ·cases h0
  rename_i h5
  split at h0
  ·cases h0
  rename_i h6
  unfold Sg.gY at h6
  rw[hk]at h5 h6
  simp[Sg.aH,Sg.lF,Sg.uH]at h5 h6
  refine⟨by omega,by omega,by omega,by omega,fun _=>h5⟩
 ·rw[if_neg (by rw[hr];simp)]at h0
  split at h0
  ·cases h0
  split at h0
  ·cases h0
  rename_i h6
  unfold Sg.gY at h6
  rw[hk]at h6
  simp[Sg.aH,Sg.lF,Sg.uH]at h6
  refine⟨by omega,by omega,by omega,by omega,fun e=>by omega⟩
theorem DF{s:aT}(h:oJ s):1≤s.ID∧s.ID≤255:=by
 obtain⟨_,h1,h2,_⟩:=Sg.iQ h.1
 exact⟨h1,h2⟩
theorem mM{id r:Int}(hi:1≤id∧id≤255)(hr:r=2∨r=4∨r=5∨r=9):oJ ⟨21,id,0,0,0,0,0,0,r,zu⟩:=by
 refine⟨?_,by simp only;omega,by simp only;omega⟩
 unfold Sg.vY
 rw[if_neg (by simp[Sg.aH]),if_neg (by simp;omega),if_neg (by simp[Sg.eU,Sg.aH,Sg.wu,zu]),if_neg (by simp[Sg.j4,Sg.aH];omega),if_pos (by simp;omega),if_neg (by simp)]
theorem KZ{id src sP mps cr:Int}(hi:1≤id∧id≤255)(hs:64≤src∧src≤127)(h1:iL sP=true)(h2:iL mps=true)(h3:countB cr=true):oJ ⟨21,id,0,src,0,sP,mps,cr,0,zu⟩:=by
 refine⟨?_,by simp only;omega,by simp only;omega⟩
 unfold iL at h1 h2
 unfold countB at h3
 simp only[Bool.and_eq_true,decide_eq_true_eq]at h1 h2 h3
 unfold Sg.vY
 rw[if_neg (by simp[Sg.aH]),if_neg (by simp;omega),if_neg (by simp[Sg.eU,Sg.aH,Sg.wu,zu]),if_neg (by simp[Sg.j4,Sg.aH]),if_neg (by simp),if_neg (by simp[Sg.aH]),if_neg (by simp[Sg.gY,Sg.aH,Sg.lG,Sg.V9];omega),if_neg (by simp[Sg.aH])]
theorem KX{id src cr:Int}(hi:1≤id∧id≤255)(hs:64≤src∧src≤127)(h3:1≤cr∧cr≤65535):oJ ⟨22,id,0,src,0,0,0,cr,0,zu⟩:=by
 refine⟨?_,by simp only;omega,by simp only;omega⟩
 unfold Sg.vY
 rw[if_neg (by simp[Sg.aH]),if_neg (by simp;omega),if_neg (by simp[Sg.eU,Sg.aH,Sg.wu,zu]),if_neg (by simp[Sg.j4,Sg.aH]),if_neg (by simp),if_neg (by simp[Sg.aH]),if_neg (by simp[Sg.gY,Sg.aH,Sg.lG];omega),if_neg (by simp[Sg.aH])]
theorem Vh(l:List eZ)(s:aT)(hl:l.length≤1000000):q4q FF l s=some (fidx (fun o=>o.bU==s.bU) l,s):=by
 unfold q4q fidx
 rw[ku (p:=fun o:eZ=>o.bU==s.bU) (l:=l) (c:=s) (g:=fun i=>(i,s)) (fun i x hx=>by
  have hlt:=(gS.1 hx).1
  show YL FF l _ _=_
  unfold YL q5o
  rw[if_pos (by simp[len];omega),bf hx]
  simp only[bs,wN i (by omega)]
  split <;> rfl) (by
  show YL FF l _ _=_
  unfold YL
  rw[if_neg (by simp[len])]) (by rw[jD];omega)]
 cases l.findIdx? (fun o=>o.bU==s.bU) <;> rfl
theorem Z8{k:Nat}{m:aL}(h:MInv k m){l c:aS}{v:Int}(hc:Sd.Ok c)(hv:c.Local=v)(hf:gF m v=false)(hu:fU m<16):MInv k { m with aj:=jY c m.aj }:=by
 have hn:∀w,gF m w=true→w≠v:=fun w hw e=>by rw[e,hf]at hw;cases hw
 refine h.add hc (fun d hd e=>?_) (fun s hs hk e=>?_) ?_
 ·exact hn d.Local ((dM m _).2 (.inl ⟨d,hd,rfl⟩)) (by rw[e,hv])
 ·exact hn s.Source ((dM m _).2 (.inr ⟨s,hs,.inl hk,rfl⟩)) (by rw[e,hv])
 ·have:=CP (m:=m) (m':={ m with aj:=jY c m.aj }) v fun w hw=>by
   rcases(KR m c w).1 hw with h | h
   ·exact .inl h
   ·exact .inr (by rw[h,hv])
  omega
end V
namespace V
theorem fF{α:Type}{l:List α}{i:Nat}{x:α}(h:l[i]? = some x):x∈l:=List.mem_of_getElem? h
end V
namespace V
theorem O6{x:Int}(h:Byte x):aI x=x:=by
 have:=h.1
 have:=h.2
 exact bN (by omega) (by omega)
end V
end Go.Proofs.YtbgfhaahhdnogaaGreat
