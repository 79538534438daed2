/- Loops and lists of chapter 35: the first element with a prop -/
import Derived.Test.YtbgfhaahhdnogaaGreatLoop
import Derived.Test.YtbgfhaahhdnogaaGreatFn
import Derived.KernelRfl
namespace Go.Proofs.YtbgfhaahhdnogaaGreat
namespace V
theorem bs {α β:Type} (a:α) (f:α→Option β):(some a).bind f=f a:=rfl
theorem gE {α:Type} {l:List α} {i:Nat} (h:i<l.length):l[i]?=some l[i]:=List.getElem?_eq_getElem h
theorem lA {α:Type} {l m:List α}:(l++m).length=l.length+m.length:=List.length_append
theorem gM {α:Type} {l:List α} {i:Nat} (h:i<l.length):l[i]∈l:=List.getElem_mem h
theorem gS {α:Type} {l:List α} {i:Nat} {a:α}:l[i]?=some a↔∃h:i<l.length,l[i]=a:=List.getElem?_eq_some_iff
def FF:Nat:=1125899906842624
theorem dt {p:Prop} [Decidable p] (h:p):decide p=true:=decide_eq_true h
theorem df {p:Prop} [Decidable p] (h:¬ p):¬ decide p=true:=fun e=>h (of_decide_eq_true e)
def fidx {α:Type} (p:α→Bool) (l:List α):Int:=match l.findIdx? p with
  | some i=>(i:Int)
  | none=>-1
theorem iter_find0 {α γ β:Type} {body:γ×Int→Option (Out (γ×Int) (Sum γ β))} {l:List α} {p:α→Bool} {c:γ} {g:Int→β} (h:∀(i:Nat) x,l[i]? = some x→body (c,(i:Int))=some (if p x=true then .done (.inr (g (i:Int))) else .next (c,((i+1:Nat):Int)))) (he:body (c,(l.length:Int))=some (.done (.inl c))) :
    ∀(m:List α) (F k:Nat),l.drop k=m→k≤l.length→m.length<F→iter body F (c,(k:Int))=some (match m.findIdx? p with
      | some i=>.inr (g ((k+i:Nat):Int))
      | none=>.inl c)
  | [],F,k,hd,hk,hF=>by
    have hk2:k=l.length:=by
      have:=congrArg List.length hd
      rw [List.length_drop,List.length_nil] at this
      omega
    subst hk2
    cases F with
    | zero=>simp at hF
    | succ F=>rw [iter_stop he]; rfl
  | x::m,F,k,hd,hk,hF=>by
    have hx:l[k]? = some x:=by
      have:=congrArg (fun z:List α=>z[0]?) hd
      simpa using this
    have hlt:=(gS.1 hx).1
    have hd2:l.drop (k+1)=m:=by
      have:=congrArg List.tail hd
      simpa using this
    have hb:=h k x hx
    cases F with
    | zero=>simp at hF
    | succ F=>
      rw [List.findIdx?_cons]
      by_cases hp:p x=true
      · rw [if_pos hp] at hb
        rw [iter_stop hb,if_pos hp]
        simp
      · rw [if_neg hp] at hb
        rw [iter_step hb,iter_find0 h he m F (k+1) hd2 hlt (by simp at hF; omega),if_neg hp]
        cases m.findIdx? p with
        | none=>rfl
        | some i=>
          simp only [Option.map_some]
          rw [show k+1+i=k+(i+1) by omega]
theorem iter_find {α γ β:Type} {body:γ×Int→Option (Out (γ×Int) (Sum γ β))} {l:List α} {p:α→Bool} {c:γ} {g:Int→β} (h:∀(i:Nat) x,l[i]? = some x→body (c,(i:Int))=some (if p x=true then .done (.inr (g (i:Int))) else .next (c,((i+1:Nat):Int)))) (he:body (c,(l.length:Int))=some (.done (.inl c)))
    {F:Nat} (hF:l.length<F):iter body F (c,0)=some (match l.findIdx? p with
      | some i=>.inr (g (i:Int))
      | none=>.inl c):=by
  have:=iter_find0 h he l F 0 (by simp) (by omega) hF
  rw [show ((0:Nat):Int)=0 from rfl] at this
  rw [this]
  cases l.findIdx? p with
  | none=>rfl
  | some i=>simp
theorem fidx_cases {α:Type} (p:α→Bool) (l:List α):(fidx p l = -1∧l.any p=false)∨∃(i:Nat) (x:α),fidx p l=(i:Int)∧l[i]? = some x∧p x=true∧∀j,j<i→∀y,l[j]? = some y→p y=false:=by
  unfold fidx
  cases h:l.findIdx? p with
  | none=>
    refine .inl ⟨rfl,?_⟩
    rw [List.findIdx?_eq_none_iff] at h
    rw [List.any_eq_false]
    intro x hx
    simp [h x hx]
  | some i=>
    rw [List.findIdx?_eq_some_iff_getElem] at h
    obtain⟨h1,h2,h3⟩:=h
    refine .inr ⟨i,l[i],rfl,gE h1,h2,fun j hj y hy=>?_⟩
    have h4:=h3 j hj
    rw [gE (by omega)] at hy
    injection hy with hy
    rw [← hy]
    simpa using h4
theorem fidx_any {α:Type} (p:α→Bool) (l:List α):decide (fidx p l≥0)=l.any p:=by
  rcases fidx_cases p l with ⟨h1,h2⟩ | ⟨i,x,h1,h2,h3,_⟩
  · rw [h1,h2]; rfl
  · rw [h1,List.any_eq_true.2 ⟨x,List.mem_of_getElem? h2,h3⟩]
    exact dt (by omega)
theorem upd_same {α:Type} {l:List α} {i:Nat} {x:α} (h:l[i]? = some x):upd l (i:Int) x=some l:=by
  have hlt:=(gS.1 h).1
  unfold upd
  rw [if_pos (by omega),Int.toNat_natCast]
  congr 1
  apply List.ext_getElem?
  intro j
  rw [List.getElem?_set]
  split
  · rename_i e
    subst e
    exact h.symm
  · rfl
theorem idx_some' {α:Type} {l:List α} {i:Nat} {x:α} (h:l[i]? = some x):idx l (i:Int)=some x:=by rw [dN,h]
theorem take_succ' {α:Type} {l:List α} {i:Nat} {x:α} (h:l[i]? = some x):l.take i++[x]=l.take (i+1):=by
  rw [List.take_add_one,h]; rfl
theorem join_ok (F:Nat) (l:List (List Int)) (hF:l.length<F) (hl:l.length<1000000) (hs:l.flatten.length≤140737488355328):q6 F l=some l.flatten:=by
  unfold q6 q3d
  have:=iter_count (body:=fun s:List Int×Int=>qj F l s.1 s.2) (fun i=>((l.take i).flatten,(i:Int))) l.length l.flatten (fun i hi=>by
    have hx:l[i]? = some l[i]:=gE hi
    have hfl:(l.take i).flatten++l[i]=(l.take (i+1)).flatten:=by rw [← take_succ' hx,List.flatten_append,List.flatten_singleton]
    have hle:(l.take (i+1)).flatten.length≤l.flatten.length:=by
      have h1:=congrArg (fun z=>(List.flatten z).length) (List.take_append_drop (i+1) l)
      simp only [List.flatten_append,lA] at h1
      omega
    show qj F l _ _=_
    unfold qj
    rw [if_pos (by simp [len]; omega)]
    simp only [dN,hx,bs]
    rw [app_small (by rw [← lA,hfl]; omega) (by omega)]
    simp only [bs,hfl,wN i (by omega)]) (by
    show qj F l _ _=_
    unfold qj
    rw [if_neg (by simp [len])]
    simp) F 0 (by omega) (by omega)
  rw [List.take_zero,List.flatten_nil,show ((0:Nat):Int)=0 from rfl] at this
  rw [this]
  rfl
theorem join_one (F:Nat) (b:List Int) (hF:2<F) (hb:b.length≤140737488355328):q6 F [b]=some b:=by
  rw [join_ok F [b] (by simp; omega) (by simp) (by simpa using hb)]
  simp
theorem app_nil {α:Type} {k:Nat} {l:List α} (hk:0<k) (h:l.length * k≤140737488355328):app k ([]:List α) l=some l:=by
  rw [app_small (by simpa using h) hk,List.nil_append]
structure Sz (m:Tx6):Prop where
  lis:m.Listeners.length≤1000000
  ask:m.Asked.length≤1000000
  chs:m.Channels.length≤1000000
  out:m.Out.length≤1000000000
  cout:∀c∈m.Channels,c.Out.length≤1000∧c.In.length≤1000000
  crow:∀c∈m.Channels,∀s∈c.Out,s.length≤1000000
  pay:∀f∈m.Out,f.Payload.length≤1000000
  buf:m.Assembler.Buffer.length≤1000000000
theorem clone_l (F:Nat) (l:List Tx0) (h:l.length≤1000000):qh F l=some l:=by
  unfold qh
  rw [app_nil (by omega) (by omega)]; rfl
theorem clone_s (F:Nat) (l:List Tx3) (h:l.length≤1000000):q18 F l=some l:=by
  unfold q18
  rw [app_nil (by omega) (by omega)]; rfl
theorem clone_c (F:Nat) (l:List Tx1) (h:l.length≤1000000):q19 F l=some l:=by
  unfold q19
  rw [app_nil (by omega) (by omega)]; rfl
theorem clone_f (F:Nat) (l:List Tx5) (h:l.length≤1000000000):q1a F l=some l:=by
  unfold q1a
  rw [app_nil (by omega) (by omega)]; rfl
theorem bytes_ok (F:Nat) (l:List (List Int)) (hF:1000000000<F) (hl:l.length≤1000) (hs:∀s∈l,s.length≤1000000):q12 F l=some l:=by
  unfold q12 q3e
  have:=iter_count (body:=fun s:List (List Int)×Int=>qk F l s.1 s.2) (fun i=>(l.take i,(i:Int))) l.length l (fun i hi=>by
    have hx:l[i]? = some l[i]:=gE hi
    have hm:=hs _ (gM hi)
    show qk F l _ _=_
    unfold qk
    rw [if_pos (by simp [len]; omega)]
    simp only [dN,hx,bs]
    rw [join_one F _ (by omega) (by omega),bs,app_small (by simp; omega) (by omega)]
    simp only [bs,take_succ' hx,wN i (by omega)]) (by
    show qk F l _ _=_
    unfold qk
    rw [if_neg (by simp [len])]
    simp) F 0 (by omega) (by omega)
  rw [List.take_zero,show ((0:Nat):Int)=0 from rfl] at this
  rw [this]
  rfl
theorem of_ok (F:Nat) (m:Tx6) (hF:10000000000<F) (h:Sz m):q8 F m=some ⟨m,[]⟩:=by
  unfold q8
  rw [clone_l F _ h.lis,clone_s F _ h.ask,clone_c F _ h.chs,clone_f F _ h.out]
  simp only [bs]
  unfold q3h
  have h1:=iter_count (body:=fun s:List Tx1×Int=>qm F m s.1 s.2) (fun i=>(m.Channels,(i:Int))) m.Channels.length m.Channels (fun i hi=>by
    have hx:m.Channels[i]? = some m.Channels[i]:=gE hi
    have hm:=h.cout _ (gM hi)
    have hlen:=h.chs
    show qm F m _ _=_
    unfold qm
    rw [if_pos (by simp [len]; omega)]
    simp only [idx_some' hx,bs]
    rw [bytes_ok F _ (by omega) hm.1 (h.crow _ (gM hi)),bs,join_one F _ (by omega) (by omega),bs]
    rw [upd_same hx]
    simp only [bs,idx_some' hx]
    rw [upd_same hx]
    simp only [bs,wN i (by omega)]) (by
    show qm F m _ _=_
    unfold qm
    rw [if_neg (by simp [len])]) F 0 (by omega) (by have:=h.chs; omega)
  rw [show ((0:Nat):Int)=0 from rfl] at h1
  rw [h1,bs]
  unfold q3g
  have h2:=iter_count (body:=fun s:List Tx5×Int=>ql F m s.1 s.2) (fun i=>(m.Out,(i:Int))) m.Out.length m.Out (fun i hi=>by
    have hx:m.Out[i]? = some m.Out[i]:=gE hi
    have hm:=h.pay _ (gM hi)
    have hlen:=h.out
    show ql F m _ _=_
    unfold ql
    rw [if_pos (by simp [len]; omega)]
    simp only [idx_some' hx,bs]
    rw [join_one F _ (by omega) (by omega),bs]
    rw [upd_same hx]
    simp only [bs,wN i (by omega)]) (by
    show ql F m _ _=_
    unfold ql
    rw [if_neg (by simp [len])]) F 0 (by omega) (by have:=h.out; omega)
  rw [show ((0:Nat):Int)=0 from rfl] at h2
  rw [h2,bs]
  unfold q3f
  have:=h.buf
  rw [join_one F _ (by omega) (by omega)]
  rfl
theorem same_refl (F:Nat) (a:List Int):qa F a a=some true:=by simp [qa]
theorem iter_all {body:Int→Option (Out Int (Sum Unit Bool))} {n F:Nat} (h:∀i:Nat,i<n→body (i:Int)=some (.next ((i+1:Nat):Int))) (he:body (n:Int)=some (.done (.inl ()))) (hF:n<F):iter body F 0=some (.inl ()):=by
  have:=iter_count (body:=body) (fun i=>(i:Int)) n (.inl ()) h he F 0 (by omega) (by omega)
  rwa [show ((0:Nat):Int)=0 from rfl] at this
theorem same_frames_refl (F:Nat) (l:List Tx5) (hF:l.length<F) (hl:l.length<10000000000):q1w F l l=some true:=by
  unfold q1w
  have k:=iter_all (body:=fun s=>qx F l l s) (n:=l.length) (fun i hi=>by
    show qx F l l _=_
    unfold qx
    rw [if_pos (by simp [len]; omega)]
    simp only [dN,gE hi,bs,same_refl]
    rw [if_neg (by simp)]
    simp only [q3b,wN i (by omega)]
    simp) (by
    show qx F l l _=_
    unfold qx
    rw [if_neg (by simp [len])]) hF
  rw [if_neg (by simp),k]
  rfl
theorem lists_refl (F:Nat) (l:List (List Int)) (hF:l.length<F) (hl:l.length<1000000000):q1t F l l=some true:=by
  unfold q1t q4r
  have k:=iter_all (body:=fun s=>qw F l l s) (n:=l.length) (fun i hi=>by
    show qw F l l _=_
    unfold qw q4s
    rw [if_pos (by simp [len]; omega)]
    simp only [dN,gE hi,bs,same_refl,wN i (by omega)]
    simp) (by
    show qw F l l _=_
    unfold qw
    rw [if_neg (by simp [len])]) hF
  rw [if_neg (by simp),k]
  rfl
theorem chan_refl (F:Nat) (c:Tx1) (hF:1000000000<F) (hl:c.Out.length≤1000):q1u F c c=some true:=by
  unfold q1u
  rw [if_neg (by simp),if_neg (by simp),lists_refl F _ (by omega) (by omega)]
  simp [same_refl]
theorem asm_refl (F:Nat) (a:Tx4):q1v F a a=some true:=by
  unfold q1v
  simp [same_refl]
theorem mux_refl (F:Nat) (m:Tx6) (hF:10000000000<F) (h:Sz m):q11 F m m=some true:=by
  have hl:=h.lis
  have hc:=h.chs
  have ha:=h.ask
  have ho:=h.out
  have k3:=iter_all (body:=fun s=>q10 F m m s) (n:=m.Listeners.length) (F:=F) (fun i hi=>by
    show q10 F m m _=_
    unfold q10 q4y
    rw [if_pos (by simp [len]; omega)]
    simp only [dN,gE hi,bs,wN i (by omega)]
    simp) (by
    show q10 F m m _=_
    unfold q10
    rw [if_neg (by simp [len])]) (by omega)
  have k2:=iter_all (body:=fun s=>qz F m m s) (n:=m.Channels.length) (F:=F) (fun i hi=>by
    show qz F m m _=_
    unfold qz q4w
    rw [if_pos (by simp [len]; omega)]
    simp only [dN,gE hi,bs,wN i (by omega),chan_refl F _ (by omega) (h.cout _ (gM hi)).1]
    simp) (by
    show qz F m m _=_
    unfold qz
    rw [if_neg (by simp [len])]) (by omega)
  have k1:=iter_all (body:=fun s=>qy F m m s) (n:=m.Asked.length) (F:=F) (fun i hi=>by
    show qy F m m _=_
    unfold qy q4u
    rw [if_pos (by simp [len]; omega)]
    simp only [dN,gE hi,bs,wN i (by omega)]
    simp) (by
    show qy F m m _=_
    unfold qy
    rw [if_neg (by simp [len])]) (by omega)
  unfold q11
  rw [if_neg (by simp),k3]
  simp only [bs]
  unfold q4x
  rw [k2]
  simp only [bs]
  unfold q4v
  rw [k1]
  simp only [bs]
  unfold q4t
  rw [asm_refl,same_frames_refl F _ (by omega) (by omega)]
  rfl
end V
end Go.Proofs.YtbgfhaahhdnogaaGreat

namespace Go.Proofs.YtbgfhaahhdnogaaGreat
namespace V
def zm:Tx6:=⟨0,0,[],[],[],0,⟨false,[]⟩,[],0,0⟩
def sizeB (n:Int):Bool:=decide (n≥23)&&decide (n≤4096)
def countB (n:Int):Bool:=decide (n≥0)&&decide (n≤65535)
def lerr (l:List Tx0) (x:Tx0):Int:=
  if x.PSM=0 then 1
  else if l.any (fun o=>o.PSM == x.PSM)=true then 7
  else if (sizeB x.MTU&&sizeB x.MPS&&countB x.Credits&&(decide (x.Level≥0)&&decide (x.Level≤2)))=false then 5
  else 0
def lchk (l:List Tx0):Nat→Nat→Int
  | _,0=>0
  | k,n+1=>match l[k]? with
    | none=>0
    | some x=>if lerr (l.take k) x=0 then lchk l (k+1) n else lerr (l.take k) x
def newM (role:Int) (l:List Tx0):Tx6×Int:=
  if role≠0∧role≠1 then (zm,1)
  else if l.length > 64 then (zm,4)
  else if lchk l 0 l.length=0 then (⟨role,0,l,[],[],1,⟨false,[]⟩,[],0,27⟩,0) else (zm,lchk l 0 l.length)
theorem fidx26 (F:Nat) (l:List Tx0) (c:Tx0) (hF:l.length<F) (hl:l.length<1000000000):q16 F l c=some (fidx (fun o=>o.PSM == c.PSM) l,c):=by
  unfold q16 fidx
  have k:=iter_find (body:=fun s:Tx0×Int=>qg F l s.1 s.2) (l:=l) (p:=fun o=>o.PSM == c.PSM) (c:=c) (g:=fun i=>(i,c)) (fun i x hx=>by
    have hlt:=(gS.1 hx).1
    show qg F l _ _=_
    unfold qg q1z
    rw [if_pos (by simp [len]; omega),idx_some' hx]
    simp only [bs,wN i (by omega)]
    split <;> rfl) (by
    show qg F l _ _=_
    unfold qg
    rw [if_neg (by simp [len])]) hF
  rw [k]
  cases l.findIdx? (fun o=>o.PSM == c.PSM) <;> rfl
theorem cont26 (F:Nat) (l:List Tx0) (c:Tx0) (hF:l.length<F) (hl:l.length<1000000000):q17 F l c=some (l.any (fun o=>o.PSM == c.PSM),c):=by
  unfold q17
  rw [fidx26 F l c hF hl,bs,fidx_any]
theorem new_round (F:Nat) (l:List Tx0) (i:Nat) (x:Tx0) (hx:l[i]? = some x) (hF:l.length<F) (hl:l.length<1000000000):qi F l (i:Int)=some (if lerr (l.take i) x=0 then .next ((i+1:Nat):Int) else .done (.inr (zm,lerr (l.take i) x))):=by
  have hlt:=(gS.1 hx).1
  have hsub:sub l 0 (i:Int)=some (l.take i):=by
    have:=sub_nat l 0 i (by omega) (by omega)
    rw [show ((0:Nat):Int)=0 from rfl] at this
    rw [this]
    simp
  unfold qi qc qb
  rw [if_pos (by simp [len]; omega),idx_some' hx,bs,hsub,bs,cont26 F _ _ (by rw [List.length_take]; omega) (by rw [List.length_take]; omega)]
  simp only [bs,wN i (by omega)]
  unfold lerr
  by_cases h1:x.PSM=0
  · rw [if_pos (by simpa using h1),if_pos h1]; rfl
  rw [if_neg (by simpa using h1),if_neg h1]
  by_cases h2:(l.take i).any (fun o=>o.PSM == x.PSM)=true
  · rw [if_pos h2,if_pos h2]; rfl
  rw [if_neg h2,if_neg h2]
  cases hb1:sizeB x.MTU <;> cases hb2:sizeB x.MPS <;> cases hb3:countB x.Credits <;> cases hb4:(decide (x.Level≥0)&&decide (x.Level≤2)) <;> (unfold sizeB at hb1 hb2; unfold countB at hb3; simp [hb1,hb2,hb3,hb4,zm])
theorem lchk_step {l:List Tx0} {k n:Nat} {x:Tx0} (h:l[k]? = some x):lchk l k (n+1)=if lerr (l.take k) x=0 then lchk l (k+1) n else lerr (l.take k) x:=by simp only [lchk,h]
theorem new_loop (F:Nat) (l:List Tx0) (hF:l.length<F) (hl:l.length<1000000000) (body:Int→Option (Out Int (Sum Unit (Tx6×Int)))) (hb:∀(i:Nat) x,l[i]? = some x→body (i:Int)=some (if lerr (l.take i) x=0 then .next ((i+1:Nat):Int) else .done (.inr (zm,lerr (l.take i) x)))) (he:body (l.length:Int)=some (.done (.inl ()))) :
    ∀(n k f:Nat),k+n=l.length→n<f→iter body f (k:Int)=some (if lchk l k n=0 then .inl () else .inr (zm,lchk l k n))
  | 0,k,f,hk,hf=>by
    have:k=l.length:=by omega
    subst this
    cases f with
    | zero=>omega
    | succ f=>rw [iter_stop he]; rfl
  | n+1,k,f,hk,hf=>by
    have hx:l[k]? = some l[k]:=gE (by omega)
    have h1:=hb k _ hx
    cases f with
    | zero=>omega
    | succ f=>
      rw [lchk_step hx]
      by_cases h2:lerr (l.take k) l[k]=0
      · rw [if_pos h2] at h1
        rw [iter_step h1,if_pos h2]
        exact new_loop F l hF hl body hb he n (k+1) f (by omega) (by omega)
      · rw [if_neg h2] at h1
        rw [iter_stop h1,if_neg h2,if_neg h2]
theorem new_ok (F:Nat) (role:Int) (l:List Tx0) (hF:1000<F):qd F role l=some (newM role l):=by
  unfold qd newM
  by_cases h1:role≠0∧role≠1
  · rw [if_pos (by simpa using h1),if_pos h1]; rfl
  rw [if_neg (by simpa using h1),if_neg h1]
  by_cases h2:l.length > 64
  · rw [if_pos (by simp [len]; omega),if_pos h2]; rfl
  rw [if_neg (by simp [len]; omega),if_neg h2]
  have k:=new_loop F l (by omega) (by omega) (fun s=>qi F l s) (fun i x hx=>new_round F l i x hx (by omega) (by omega)) (by
    show qi F l _=_
    unfold qi
    rw [if_neg (by simp [len])]) l.length 0 F (by omega) (by omega)
  rw [show ((0:Nat):Int)=0 from rfl] at k
  rw [k]
  by_cases h3:lchk l 0 l.length=0
  · rw [if_pos h3,if_pos h3]
    simp only [bs]
    unfold q3c
    rw [clone_l F _ (by omega)]
    rfl
  · rw [if_neg h3,if_neg h3]; rfl
theorem iter_any2 {body:Int→Option (Out Int (Sum Unit (Tx6×Int)))} {l:List Tx0} {p:Tx0→Bool} {e:Tx6×Int} {n F:Nat} (h:∀(i:Nat) x,i<n→l[i]? = some x→body (i:Int)=some (if p x=true then .done (.inr e) else .next ((i+1:Nat):Int))) (he:body (n:Int)=some (.done (.inl ()))) (hn:n≤l.length) (hF:n<F):iter body F 0=some (if (l.take n).any p=true then .inr e else .inl ()):=by
  have hlen:(l.take n).length=n:=by rw [List.length_take]; omega
  have:=iter_any (body:=body) (l:=l.take n) (p:=p) (o:=.inr e) (e:=.inl ()) (fun i x hx=>by
    have hlt:=(gS.1 hx).1
    rw [hlen] at hlt
    rw [List.getElem?_take,if_pos hlt] at hx
    exact h i x hlt hx) (by rw [hlen]; exact he) F 0 (by omega) (by omega)
  simpa using this
theorem rnew_round (F:Nat) (l:List Tx0) (i:Nat) (x:Tx0) (hx:l[i]? = some x) (hF:l.length<F) (hl:l.length<1000000000):qu F l (i:Int)=some (if lerr (l.take i) x=0 then .next ((i+1:Nat):Int) else .done (.inr (zm,lerr (l.take i) x))):=by
  have hlt:=(gS.1 hx).1
  unfold qu
  rw [if_pos (by simp [len]; omega),idx_some' hx,bs]
  unfold lerr
  by_cases h1:x.PSM=0
  · rw [if_pos (by simpa using h1),if_pos h1]; rfl
  rw [if_neg (by simpa using h1),if_neg h1]
  have k:=iter_any2 (body:=fun s=>qt F l (i:Int) x s) (l:=l) (p:=fun o=>o.PSM == x.PSM) (e:=(zm,7)) (n:=i) (F:=F) (fun j y hj hy=>by
    show qt F l _ x _=_
    unfold qt q4q
    rw [if_pos (by simp; omega),idx_some' hy]
    simp only [bs,wN j (by omega)]
    split <;> rfl) (by
    show qt F l _ x _=_
    unfold qt
    rw [if_neg (by simp)]) (by omega) (by omega)
  rw [k]
  by_cases h2:(l.take i).any (fun o=>o.PSM == x.PSM)=true
  · rw [if_pos h2,if_pos h2]; rfl
  rw [if_neg h2,if_neg h2]
  simp only [bs]
  unfold q4p q4o q14 q22
  simp only [bs,wN i (by omega)]
  have hv:(decide (x.Level≥0)&&decide (x.Level≤2)) = !(decide (x.Level<0)||decide (x.Level > 2)):=by
    by_cases h3:x.Level<0 <;> by_cases h4:x.Level > 2 <;> simp [h3,h4] <;> omega
  cases hb1:sizeB x.MTU <;> cases hb2:sizeB x.MPS <;> cases hb3:countB x.Credits <;> cases hb4:decide (x.Level<0) <;> cases hb5:decide (x.Level > 2) <;> (unfold sizeB at hb1 hb2; unfold countB at hb3; rw [hv,hb4,hb5]; simp [hb1,hb2,hb3,zm])
theorem rnew_ok (F:Nat) (role:Int) (l:List Tx0) (hF:1000<F):q1s F role l=some (newM role l):=by
  unfold q1s newM
  by_cases h1:role≠0∧role≠1
  · rw [if_pos (by simpa using h1),if_pos h1]; rfl
  rw [if_neg (by simpa using h1),if_neg h1]
  by_cases h2:l.length > 64
  · rw [if_pos (by simp [len]; omega),if_pos h2]; rfl
  rw [if_neg (by simp [len]; omega),if_neg h2]
  have k:=new_loop F l (by omega) (by omega) (fun s=>qu F l s) (fun i x hx=>rnew_round F l i x hx (by omega) (by omega)) (by
    show qu F l _=_
    unfold qu
    rw [if_neg (by simp [len])]) l.length 0 F (by omega) (by omega)
  rw [show ((0:Nat):Int)=0 from rfl] at k
  rw [k]
  by_cases h3:lchk l 0 l.length=0
  · rw [if_pos h3,if_pos h3]
    simp only [bs]
    unfold q4n
    rw [app_nil (by omega) (by omega)]
    rfl
  · rw [if_neg h3,if_neg h3]; rfl
theorem new_sz (role:Int) (l:List Tx0):Sz (newM role l).1:=by
  unfold newM
  split
  · exact⟨by simp [zm],by simp [zm],by simp [zm],by simp [zm],by simp [zm],by simp [zm],by simp [zm],by simp [zm]⟩
  split
  · exact⟨by simp [zm],by simp [zm],by simp [zm],by simp [zm],by simp [zm],by simp [zm],by simp [zm],by simp [zm]⟩
  split
  · exact⟨by simp; omega,by simp,by simp,by simp,by simp,by simp,by simp,by simp⟩
  · exact⟨by simp [zm],by simp [zm],by simp [zm],by simp [zm],by simp [zm],by simp [zm],by simp [zm],by simp [zm]⟩
def lvl (n:Int):Int:=if n<0 then 0 else if n > 2 then 2 else n
theorem secure_ok (F:Nat) (m:Tx6) (n:Int) (hF:10000000000<F) (h:Sz m):q1x F m n=some { m with Level:=lvl n }:=by
  unfold q1x
  rw [of_ok F m hF h]
  have:imax 0 (imin n 2)=lvl n:=by unfold imax imin lvl; split <;> split <;> (try split) <;> omega
  simp [this]
theorem rsecure_ok (F:Nat) (m:Tx6) (n:Int):q1y F m n=some { m with Level:=lvl n }:=by
  unfold q1y
  have:imin (imax n 0) 2=lvl n:=by unfold imax imin lvl; split <;> split <;> (try split) <;> omega
  rw [this]
theorem level_sz {m:Tx6} (h:Sz m) (n:Int):Sz { m with Level:=n }:=⟨h.lis,h.ask,h.chs,h.out,h.cout,h.crow,h.pay,h.buf⟩
theorem ex_holds:q13 FF=some true:=by kernel_rfl
end V
end Go.Proofs.YtbgfhaahhdnogaaGreat

namespace Go.Proofs.YtbgfhaahhdnogaaGreat
namespace V
theorem ff:10000000000<FF:=by decide
theorem news_law (role:Int) (l:List Tx0) (level:Int):q15 FF role l level=some true:=by
  unfold q15
  by_cases h:len l > 100
  · rw [if_pos (dt h),ex_holds]; rfl
  rw [if_neg (df h),new_ok FF role l (by have:=ff; omega),rnew_ok FF role l (by have:=ff; omega)]
  simp only [bs]
  have hs:=new_sz role l
  rw [if_neg (by simp),mux_refl FF _ ff hs]
  simp only [bs,Bool.not_true]
  rw [if_neg (by simp),secure_ok FF _ level ff hs,rsecure_ok]
  simp only [bs]
  rw [mux_refl FF _ ff (level_sz hs _),bs,if_pos rfl,ex_holds]
  rfl
end V
end Go.Proofs.YtbgfhaahhdnogaaGreat
