/- Bonds: loads, additions, changes. -/
import Derived.Test.YtbdhonofhlpdoaaDoorLawK
namespace Go.Proofs.YtbdhonofhlpdoaaDoor
namespace V
theorem nx {s A R:List Int} {i k:Nat} (h:s.drop i=A++R) (hk:A.length=k):s.drop (i+k)=R∧(s.drop i).take k=A:=by
  subst hk
  rw [← List.drop_drop,h]
  exact⟨List.drop_left,List.take_left⟩
theorem num_id {k:Nat} {x:Int} (h0:0≤x) (h1:x<256 ^ k):num (leb k x)=x:=by rw [num_leb,Int.emod_eq_of_lt h0 h1]
theorem get_drop {s R:List Int} {i:Nat} {x:Int} (h:s.drop i=leb 1 x++R) (h0:0≤x) (h1:x<256):s[i]? = some x:=by
  have:(s.drop i)[0]? = some (x % 256):=by rw [h]; rfl
  rw [List.getElem?_drop,Nat.add_zero,Int.emod_eq_of_lt h0 h1] at this
  exact this
theorem subB_drop:∀(i:Nat) (l:List T_Subscription),(l.flatMap subB).drop (3 * i)=(l.drop i).flatMap subB
  | 0,l=>by simp
  | i+1,[]=>by simp
  | i+1,x::l=>by
    have h3:(subB x).length=3:=by simp [subB,leb_length]
    rw [List.flatMap_cons,show 3 * (i+1)=3+3 * i from by omega,← List.drop_drop,List.drop_left' h3,List.drop_succ_cons]
    exact subB_drop i l
theorem subs_enc {s:List Int} {l:List T_Subscription} (h:s.drop 45=l.flatMap subB) (hl:∀x∈l,(0≤x.Handle∧x.Handle<65536)∧0≤x.Bits∧x.Bits≤3):subsOf s l.length=l:=by
  refine List.ext_getElem (subsOf_len ..) fun i h1 h2=>?_
  have hx:=hl _ (List.getElem_mem h2)
  have hd:s.drop (45+3 * i)=leb 2 l[i].Handle++(leb 1 l[i].Bits++(l.drop (i+1)).flatMap subB):=by
    rw [← List.drop_drop,h,subB_drop,List.drop_eq_getElem_cons h2,List.flatMap_cons]
    simp [subB]
  generalize hy:l[i]=y at *
  obtain⟨hd2,ht2⟩:=nx hd (k:=2) (leb_length ..)
  obtain⟨_,ht1⟩:=nx hd2 (k:=1) (leb_length ..)
  have:(subsOf s l.length)[i]=subAt s i:=by simp [subsOf]
  rw [this]
  unfold subAt
  rw [ht2,ht1,num_id (by omega) (by omega),num_id (by omega) (by omega),wu16_id (by omega) (by omega),w64_id (by omega) (by omega)]
theorem dec_enc (F:Nat) (b:T_Bond) (hF:2000<F) (hv:VB b) (hr:RB b):bonds_Decode F (encB b)=some (b,0):=by
  have hlen:=encB_len b
  have hby:=encB_byte b
  have hform:(encB b).drop 0=leb 1 b.Peer.Address.Kind++(leb 6 b.Peer.Address.Bits++(leb 8 b.Peer.IRK++(leb 8 b.LTK++(leb 8 b.Mark++(leb 1 (flagsOf b)++(leb 8 b.Hash++(leb 4 b.Used++(leb 1 (b.Subs.length:Int)++b.Subs.flatMap subB)))))))):=by
    rw [List.drop_zero]
    simp only [encB,List.append_assoc]
  generalize encB b=s at *
  obtain⟨hadr,hkind,hused,hfew,hsubs⟩:=hv
  obtain⟨r1,r2,r3,r4,r5,r6⟩:=hr
  unfold U64 at r1 r2 r3 r4 r5
  have hbits:=(chkA_lt hadr).2.2
  have hfl:=flags_rng b
  obtain⟨d1,t0⟩:=nx hform (k:=1) (leb_length ..)
  obtain⟨d7,t1⟩:=nx d1 (k:=6) (leb_length ..)
  obtain⟨d15,t7⟩:=nx d7 (k:=8) (leb_length ..)
  obtain⟨d23,t15⟩:=nx d15 (k:=8) (leb_length ..)
  obtain⟨d31,t23⟩:=nx d23 (k:=8) (leb_length ..)
  obtain⟨d32,t31⟩:=nx d31 (k:=1) (leb_length ..)
  obtain⟨d40,t32⟩:=nx d32 (k:=8) (leb_length ..)
  obtain⟨d44,t40⟩:=nx d40 (k:=4) (leb_length ..)
  obtain⟨d45,t44⟩:=nx d44 (k:=1) (leb_length ..)
  simp only [Nat.reduceAdd,Nat.zero_add] at d1 d7 d15 d23 d31 d32 d40 d44 d45 t0 t1 t7 t15 t23 t31 t32 t40 t44
  have h0:s[0]? = some b.Peer.Address.Kind:=get_drop hform (by omega) (by omega)
  have h44:s[44]? = some (b.Subs.length:Int):=get_drop d44 (by omega) (by omega)
  have hsub:=subs_enc d45 (fun x hx=>⟨r6 x hx,(okSub_mem hsubs hx).2⟩)
  have hn:=len_nat s
  have n44:num ((s.drop 44).take 1)=(b.Subs.length:Int):=by rw [t44,num_id (by omega) (by omega)]
  obtain⟨c,hc⟩:∃c:Int,(b.Subs.length:Int)=c:=⟨_,rfl⟩
  have hc0:0≤c:=by omega
  have hc16:c≤16:=by omega
  have hlc:(s.length:Int)=45+3 * c:=by omega
  rw [hc] at n44 h44
  have e44:idx s 44=some c:=h44
  have hA:decA s b.Peer.Address.Kind=b.Peer.Address:=by
    unfold decA
    rw [t1,num_id (by omega) (by omega)]
  unfold bonds_Decode
  have ew:w64 (45+3 * c)=45+3 * c:=w64_id (by omega) (by omega)
  have ew3:w64 (3 * w64 c)=3 * c:=by rw [w64_id (x:=c) (by omega) (by omega),w64_id (x:=3 * c) (by omega) (by omega)]
  rw [if_neg (by rw [decide_eq_true_eq]; omega),e44]
  simp only [Option.bind_some,ew,ew3]
  rw [if_neg (by rw [decide_eq_true_eq]; omega)]
  have hsub7:=sub_nat s 7 s.length (by omega) (by omega)
  rw [List.take_length] at hsub7
  have ht:=take_ok F (s.drop 7) [8,8,8,1,8,4,1] (by simp) (by simp) (by simp; omega) (fun x hx=>hby x (List.mem_of_mem_drop hx)) (by rw [List.length_drop]; omega) (by simp [sumN]; omega)
  rw [show sizesI [8,8,8,1,8,4,1]=[8,8,8,1,8,4,1] from rfl] at ht
  have hs7:sub s 7 (len s)=some (s.drop 7):=hsub7
  have hvals:∀(a0 a1 a2 a3 a4 a5 a6:Int),idx [a0,a1,a2,a3,a4,a5,a6] 3=some a3:=fun _ _ _ _ _ _ _=>rfl
  have hd45:len (s.drop (7+(8+(8+(8+(1+(8+(4+(1+0)))))))))=s.length - 45:=by rw [len_nat,List.length_drop]; omega
  rw [decA_u F s _ hF hby (by omega) (by omega) h0,hs7,hA,if_pos hadr]
  have n31:num ((s.drop 31).take 1)=flagsOf b:=by rw [t31,num_id (by omega) (by omega)]
  simp only [Option.bind_some,ht,valsT,sumN,List.drop_drop,hvals,hd45,show 7+8+8+8=31 from rfl,n31]
  rw [if_neg (show ¬ decide ((s.length:Int) - 45 > 3 * c)=true by rw [decide_eq_true_eq]; omega)]
  simp only [Option.bind_some]
  rw [if_neg (show ¬ decide (flagsOf b > 3)=true by rw [decide_eq_true_eq]; omega),if_neg (by simp)]
  have i0:∀(a0 a1 a2 a3 a4 a5 a6:Int),idx [a0,a1,a2,a3,a4,a5,a6] 0=some a0:=fun _ _ _ _ _ _ _=>rfl
  have i1:∀(a0 a1 a2 a3 a4 a5 a6:Int),idx [a0,a1,a2,a3,a4,a5,a6] 1=some a1:=fun _ _ _ _ _ _ _=>rfl
  have i2:∀(a0 a1 a2 a3 a4 a5 a6:Int),idx [a0,a1,a2,a3,a4,a5,a6] 2=some a2:=fun _ _ _ _ _ _ _=>rfl
  have i4:∀(a0 a1 a2 a3 a4 a5 a6:Int),idx [a0,a1,a2,a3,a4,a5,a6] 4=some a4:=fun _ _ _ _ _ _ _=>rfl
  have i5:∀(a0 a1 a2 a3 a4 a5 a6:Int),idx [a0,a1,a2,a3,a4,a5,a6] 5=some a5:=fun _ _ _ _ _ _ _=>rfl
  have i6:∀(a0 a1 a2 a3 a4 a5 a6:Int),idx [a0,a1,a2,a3,a4,a5,a6] 6=some a6:=fun _ _ _ _ _ _ _=>rfl
  simp only [i0,i1,i2,i4,i5,Option.bind_some,Nat.reduceAdd]
  unfold bonds_Decode_j1
  simp only [i6,Option.bind_some,n44]
  rw [← hc,loop_u F s b.Subs.length hF (by omega) hby (by omega),Option.bind_some]
  unfold bonds_Decode_j2
  have hB:T_Bond.mk (T_Identity.mk b.Peer.Address (num (List.take 8 (List.drop 7 s)))) (num (List.take 8 (List.drop 15 s))) (num (List.take 8 (List.drop 23 s))) (remp (flagsOf b) 2 == 1) (num (List.take 8 (List.drop 32 s))) (decide (flagsOf b > 1)) (subsOf s b.Subs.length) (w64 (num (List.take 4 (List.drop 40 s))))=b:=by
    rw [t7,t15,t23,t32,t40,hsub,num_id (by omega) (by omega),num_id (by omega) (by omega),num_id (by omega) (by omega),num_id (by omega) (by omega),num_id (by omega) (by omega),w64_id (by omega) (by omega)]
    have q1:(remp (flagsOf b) 2 == 1)=b.Strong:=by
      unfold flagsOf
      cases b.Strong <;> cases b.Aware <;> rfl
    have q2:decide (flagsOf b > 1)=b.Aware:=by
      unfold flagsOf
      cases b.Strong <;> cases b.Aware <;> rfl
    rw [q1,q2]
  rw [hB,check_same F b r1]
  obtain⟨e,k1,k2⟩:=check_ok F b hF r1
  obtain rfl:=k2.2 ⟨hadr,hkind,hused,hfew,hsubs⟩
  rw [k1,Option.bind_some,if_neg (by decide)]
def Dis (l:List T_Bond):Prop:=∀(i k:Nat) (x y:T_Bond),k<i→l[i]? = some x→l[k]? = some y→sameA x y=false
def fv (l:List T_Item) (j:Int):List Int:=match l.find? (fun x=>x.Key == j) with
  | none=>[]
  | some x=>x.Value
theorem find_ne {j:Int} {l:List T_Item} (h:∀x∈l,x.Key≠j):l.find? (fun x=>x.Key == j)=none:=List.find?_eq_none.2 fun x hx=>by simpa using h x hx
theorem setL_fv {a b:List T_Item} {r:T_Item} (ho:(a++b).Pairwise fun x y=>x.Key<y.Key) (ha:∀x∈a,x.Key<r.Key) (hb:∀x∈b,r.Key≤x.Key) (j:Int):fv (setL a b r) j=if j=r.Key then r.Value else fv (a++b) j:=by
  have hh:=high (List.pairwise_append.1 ho).2.1 hb
  unfold fv setL
  rw [List.find?_append,List.find?_append,List.find?_append]
  by_cases hj:j=r.Key
  · subst hj
    rw [if_pos rfl,find_ne (l:=a) (fun x hx=>by have:=ha x hx; omega),find_ne (l:=if hd r.Key b=true then b.tail else b) (fun x hx=>by have:=(hh x hx).1; omega),Option.none_or,Option.or_none]
    by_cases hv:r.Value=[]
    · rw [if_pos hv,hv]
      rfl
    · rw [if_neg hv,List.find?_cons,show (r.Key == r.Key)=true by simp]
  · rw [if_neg hj]
    have hm:(if r.Value=[] then [] else [r]).find? (fun x=>x.Key == j)=none:=find_ne fun x hx=>by
      split at hx
      · cases hx
      · rw [List.mem_singleton] at hx
        subst hx
        exact fun e=>hj e.symm
    have ht:(if hd r.Key b=true then b.tail else b).find? (fun x=>x.Key == j)=b.find? (fun x=>x.Key == j):=by
      split
      · cases b with
        | nil=>rfl
        | cons x t=>
          rename_i hd0
          have hk:x.Key=r.Key:=by simpa [hd] using hd0
          rw [List.tail_cons,List.find?_cons,show (x.Key == j)=false by simp; omega]
      · rfl
    rw [hm,ht,Option.or_none]
theorem set_fv {F:Nat} {l m:List T_Item} {r:T_Item} (h:Lst l) (hl:l.length≤100000) (hs:flash_set F l r=some m) (hF:200000<F) (j:Int):fv m j=if j=r.Key then r.Value else fv l j:=by
  obtain⟨a,b,rfl,ha,hb⟩:=split_at r.Key l h.ord
  rw [set_eq F a b r ha hb hl hF] at hs
  rw [← Option.some.inj hs]
  exact setL_fv h.ord ha hb j
def decO (F:Nat) (v:List Int):Option T_Bond:=(bonds_Decode F v).bind fun r=>if r.2=0 then some r.1 else none
def ad (l:List T_Bond):Option T_Bond→List T_Bond
  | none=>l
  | some b=>if l.any (sameA b)=true then l else l++[b]
def ld (F:Nat) (vs:Nat→List Int):Nat→List T_Bond
  | 0=>[]
  | i+1=>ad (ld F vs i) (decO F (vs i))
theorem ad_len (l:List T_Bond) (o:Option T_Bond):(ad l o).length≤l.length+1:=by
  cases o with
  | none=>exact Nat.le_succ _
  | some b=>
    show (if l.any (sameA b)=true then l else l++[b]).length≤_
    split
    · omega
    · rw [List.length_append,List.length_singleton]
      omega
theorem ld_len (F:Nat) (vs:Nat→List Int):∀i,(ld F vs i).length≤i
  | 0=>by simp [ld]
  | i+1=>by
    have:=ld_len F vs i
    have:=ad_len (ld F vs i) (decO F (vs i))
    rw [ld]
    omega
theorem decO_nil (F:Nat):decO F []=none:=by
  have h:bonds_Decode F []=some (T_Bond.mk (T_Identity.mk (T_Address.mk 0 0) 0) 0 0 false 0 false [] 0,3):=by
    unfold bonds_Decode
    rw [if_pos (by decide)]
    rfl
  unfold decO
  rw [h,Option.bind_some,if_neg (by decide)]
theorem load_ld (F:Nat) (s:T_Store) (hit:Lst s.Items) (hil:s.Items.length≤100000) (hF:200000<F):bonds_Load F s=some (ld F (fun i=>fv s.Items i) 16):=by
  have key:=iter_count (body:=fun z:List T_Bond×Int=>bonds_Load_l1 F s z.1 z.2) (fun i=>(ld F (fun i=>fv s.Items i) i,(i:Int))) 16 (ld F (fun i=>fv s.Items i) 16) (fun i hi=>by
    show bonds_Load_l1 F s (ld F (fun i=>fv s.Items i) i) (i:Int)=_
    have hlen:=ld_len F (fun i=>fv s.Items i) i
    have hw2:wu16 ((i:Int)+1)=((i+1:Nat):Int):=by rw [wu16_id (by omega) (by omega)]; omega
    have skip:∀l':List T_Bond,bonds_Load_j2 F (i:Int) l'=some (.next (l',((i+1:Nat):Int))):=fun l'=>by
      unfold bonds_Load_j2
      rw [hw2]
    unfold bonds_Load_l1
    rw [if_pos (dt (by omega)),get_eq F s i hit hil hF,Option.bind_some]
    rw [ld]
    generalize ld F (fun i=>fv s.Items i) i=l at *
    unfold fv
    cases hg:s.Items.find? fun x=>x.Key == (i:Int) with
    | none=>
      unfold got
      simp only
      rw [if_pos (by decide),skip,decO_nil]
      rfl
    | some it=>
      have hok:=hit.ok it (List.mem_of_find?_eq_some hg)
      have hvl:=hok.vl
      obtain⟨⟨r,e⟩,d1,d2,d3⟩:=dec_both F it.Value (by omega) hok.vb (by omega)
      unfold got decO
      simp only
      rw [if_neg (by decide),d1,Option.bind_some,Option.bind_some]
      simp only
      obtain⟨z,z1,z2⟩:=index_any F l r (by omega) hF
      by_cases h0:e=0
      · subst h0
        rw [if_neg (by decide),z1,Option.bind_some,if_pos rfl]
        unfold ad
        simp only
        cases hk:l.any (sameA r)
        · rw [if_pos (dt (z2.2 hk)),app_small (by simp; omega) (by decide),Option.bind_some,skip,if_neg (by decide)]
        · have hz:¬ z<0:=fun h=>by rw [z2.1 h] at hk; cases hk
          rw [if_neg (df hz),skip,if_pos rfl]
      · rw [if_pos (by simp [h0]),skip,if_neg h0]
        rfl) (by
    show bonds_Load_l1 F s _ ((16:Nat):Int)=_
    unfold bonds_Load_l1
    rw [if_neg (df (by omega))]) F 0 (by omega) (by omega)
  unfold bonds_Load
  have e0:((ld F (fun i=>fv s.Items i) 0,((0:Nat):Int)):List T_Bond×Int)=([],0):=rfl
  rw [e0] at key
  rw [key]
  rfl
inductive Ch (F N:Nat) (vs:Nat→List Int) (f0:T_Flash) (s0:T_Store):Nat→List T_Write→T_Flash→T_Store→Prop where
  | zero:Ch F N vs f0 s0 0 [] f0 s0
  | succ {i:Nat} {ws w:List T_Write} {f g:T_Flash} {s t:T_Store} {m:List T_Item} (c:Ch F N vs f0 s0 i ws f s) (hm:Mmy f N) (h:Mnt F f s) (hp:PlanOk s i (vs i) m w 0) (hs:flash_set F s.Items ⟨i,vs i⟩=some m) (hml:Lst m) (hmn:m.length≤s.Items.length+1) (ha:Apl F f w g) (hg:Mmy g N) (ht:Mnt F g t) (hi:t.Items=m):Ch F N vs f0 s0 (i+1) (ws++w) g t
theorem Ch.apl {F N:Nat} {vs:Nat→List Int} {f0 f:T_Flash} {s0 s:T_Store} {i:Nat} {ws:List T_Write} (c:Ch F N vs f0 s0 i ws f s):Apl F f0 ws f:=by
  induction c with
  | zero=>exact .nil _
  | succ c hm h hp hs hml hmn ha hg ht hi ih=>exact ih.app ha
theorem Ch.fv {F N:Nat} {vs:Nat→List Int} {f0 f:T_Flash} {s0 s:T_Store} {i:Nat} {ws:List T_Write} (c:Ch F N vs f0 s0 i ws f s) (hF:200000<F) (j:Nat):fv s.Items j=if j<i then vs j else fv s0.Items j:=by
  induction c with
  | zero=>rw [if_neg (by omega)]
  | @succ i ws w f g s t m c hm h hp hs hml hmn ha hg ht hi ih=>
    have hmt:=mnt_mtd hm h
    have hil:=hmt.il
    have hN:=hm.n1
    have hl1:=hm.l1
    rw [hi,set_fv hmt.it (by omega) hs hF,ih]
    by_cases hj:j=i
    · subst hj
      rw [if_pos rfl,if_pos (by omega)]
    · rw [if_neg (show ¬ ((j:Int)=(i:Int)) by omega)]
      by_cases hji:j<i
      · rw [if_pos hji,if_pos (by omega)]
      · rw [if_neg hji,if_neg (by omega)]
theorem keys_walk {F N:Nat} {f:T_Flash} {s:T_Store} (mp:List (Int×List Int)) (q:Int) (vs:Nat→List Int) (hv:∀k:Nat,k<16→mval [] mp k=vs k) (hb:∀k:Nat,k<16→∀x∈vs k,Byte x) (hvl:∀k:Nat,k<16→(vs k).length≤1024) (hm:Mmy f N) (h:Mnt F f s) (hF:200000<F) (hFF:F≤FF) :
    ∃o,iter (fun z:T_Store×List T_Write×Int=>bonds_Plan_l1 F (mp,q) z.1 z.2.1 z.2.2) F (s,[],0)=some o∧((∃ws g t,o = .inl ws∧Ch F N vs f s 16 ws g t∧Mmy g N∧Mnt F g t∧ws.length≤48)∨o = .inr ([],8)):=by
  refine iter_by (body:=fun z:T_Store×List T_Write×Int=>bonds_Plan_l1 F (mp,q) z.1 z.2.1 z.2.2) (fun z=>∃(i:Nat) (g:T_Flash),z.2.2=(i:Int)∧i≤16∧Ch F N vs f s i z.2.1 g z.1∧Mmy g N∧Mnt F g z.1∧z.2.1.length≤3 * i) _ (fun z=>16 - z.2.2.toNat) (fun z hz=>?_) F (s,[],0) ⟨0,f,rfl,by omega,.zero,hm,h,by simp⟩ (by simp; omega)
  obtain⟨t,ws,j⟩:=z
  obtain⟨i,g,hi,hi16,hc,hg,ht,hlen⟩:=hz
  simp only at hi hc ht hlen
  subst hi
  show (∃s',bonds_Plan_l1 F (mp,q) t ws (i:Int)=_∧_)∨∃o,bonds_Plan_l1 F (mp,q) t ws (i:Int)=_∧_
  unfold bonds_Plan_l1
  by_cases hin:i<16
  · obtain⟨m,w,t',e,p1,p2,p3⟩:=put_all hg ht (k:=(i:Int)) (by omega) (by omega) (hb i hin) hF hFF
    rw [if_pos (dt (by omega)),hv i hin,p1,Option.bind_some]
    simp only
    rcases p3 with ⟨rfl,g',a1,a2,a3,a4,a5,a6,a7,a8⟩ | ⟨h1,h2,rfl⟩
    · have hwl:w.length≤3:=by cases a8 <;> simp
      rw [if_neg (by decide),p2,Option.bind_some]
      simp only
      rw [if_neg (by decide),app_small (by omega) (by decide),Option.bind_some,wu16_id (by omega) (by omega)]
      exact .inl ⟨_,rfl,⟨i+1,g',by simp,by omega,.succ hc hg ht a8 a1 a2 a3 a7 a4 a5 a6,a4,a5,by simp only [List.length_append]; omega⟩,by simp only; omega⟩
    · have he:e=8:=by
        rcases h1 with h1 | h1
        · have:=h2 h1
          have:=hvl i hin
          omega
        · exact h1
      subst he
      rw [if_pos (by decide)]
      exact .inr ⟨_,rfl,.inr rfl⟩
  · rw [if_neg (df (by omega))]
    have:i=16:=by omega
    subst this
    exact .inr ⟨_,rfl,.inl ⟨ws,g,t,rfl,hc,hg,ht,by omega⟩⟩
def Few (l:List T_Bond):Prop:=∀b∈l,b.Subs.length≤1000
theorem own_ok (F:Nat) (b:T_Bond) (h:b.Subs.length≤1000):bonds_own F b=some b:=by
  unfold bonds_own slices_Clone_api_Subscription_api_Subscription
  rw [app_small (by simp; omega) (by omega),Option.bind_some,Option.bind_some,List.nil_append]
theorem clone_ok (F:Nat) (l:List T_Bond) (hF:2000<F) (hl:l.length≤1000) (hs:Few l):bonds_clone F l=some l:=by
  unfold bonds_clone bonds_clone_j1
  have hn:=len_nat l
  rw [w64_id (by omega) (by omega)]
  unfold mkc
  rw [if_pos (by omega),Option.bind_some]
  have:=iter_count (body:=fun s:List T_Bond×Int=>bonds_clone_l1 F l s.1 s.2) (fun i=>(l.take i,(i:Int))) l.length l (fun i hi=>by
    have hx:l[i]? = some l[i]:=List.getElem?_eq_getElem hi
    have hm:=hs _ (List.getElem_mem hi)
    show bonds_clone_l1 F l _ _=_
    unfold bonds_clone_l1
    rw [if_pos (by simp [len]; omega),idx_nat,hx,Option.bind_some,own_ok F _ hm,Option.bind_some,app_small (by simp; omega) (by omega),Option.bind_some,w64_nat i (by omega)]
    have:l.take i++[l[i]]=l.take (i+1):=by rw [List.take_add_one,hx]; rfl
    rw [this]) (by
    show bonds_clone_l1 F l _ _=_
    unfold bonds_clone_l1
    rw [if_neg (by simp [len]),List.take_length]) F 0 (by omega) (by omega)
  rw [List.take_zero,show ((0:Nat):Int)=0 from rfl] at this
  show (iter (fun s:List T_Bond×Int=>bonds_clone_l1 F l s.1 s.2) F ([],0)).bind _=_
  rw [this]
  rfl
def great (l:List T_Bond):Int:=l.foldl (fun g b=>imax g b.Used) 0
theorem great_ok (F:Nat) (l:List T_Bond) (hF:2000<F) (hl:l.length≤1000):bonds_greatest F l=some (great l):=by
  unfold bonds_greatest bonds_greatest_j1
  have:=iter_count (body:=fun s:Int×Int=>bonds_greatest_l1 F l s.1 s.2) (fun i=>(great (l.take i),(i:Int))) l.length (great l) (fun i hi=>by
    have hx:l[i]? = some l[i]:=List.getElem?_eq_getElem hi
    show bonds_greatest_l1 F l _ _=_
    unfold bonds_greatest_l1
    rw [if_pos (by simp [len]; omega),idx_nat,hx,Option.bind_some,w64_nat i (by omega)]
    have:great (l.take (i+1))=imax (great (l.take i)) l[i].Used:=by
      unfold great
      rw [List.take_add_one,hx,List.foldl_append]
      rfl
    rw [this]) (by
    show bonds_greatest_l1 F l _ _=_
    unfold bonds_greatest_l1
    rw [if_neg (by simp [len]),List.take_length]) F 0 (by omega) (by omega)
  rw [List.take_zero,show ((0:Nat):Int)=0 from rfl] at this
  rw [show (0:Int)=great [] from rfl]
  show (iter (fun s:Int×Int=>bonds_greatest_l1 F l s.1 s.2) F (great [],0)).bind _=_
  rw [this]
  rfl
theorem imax_ge (x y:Int):x≤imax x y∧y≤imax x y∧(imax x y=x∨imax x y=y):=by
  unfold imax
  split <;> omega
theorem foldl_great:∀(l:List T_Bond) (g:Int),g≤l.foldl (fun g b=>imax g b.Used) g∧(∀b∈l,b.Used≤l.foldl (fun g b=>imax g b.Used) g)∧(l.foldl (fun g b=>imax g b.Used) g=g∨∃b∈l,l.foldl (fun g b=>imax g b.Used) g=b.Used)
  | [],g=>⟨Int.le_refl _,(fun b h=>by cases h),.inl rfl⟩
  | b::l,g=>by
    obtain⟨h1,h2,h3⟩:=foldl_great l (imax g b.Used)
    obtain⟨k1,k2,k3⟩:=imax_ge g b.Used
    rw [List.foldl_cons]
    refine ⟨by omega,fun c hc=>?_,?_⟩
    · rcases List.mem_cons.1 hc with rfl | hc
      · omega
      · exact h2 c hc
    · rcases h3 with h3 | ⟨c,hc,h3⟩
      · rcases k3 with k3 | k3
        · exact .inl (h3.trans k3)
        · exact .inr ⟨b,by simp,h3.trans k3⟩
      · exact .inr ⟨c,by simp [hc],h3⟩
theorem great_le {l:List T_Bond} {b:T_Bond} (h:b∈l):b.Used≤great l:=(foldl_great l 0).2.1 b h
theorem great_nonneg (l:List T_Bond):0≤great l:=(foldl_great l 0).1
theorem great_lt {l:List T_Bond} {m:Int} (h0:0≤m) (h:∀b∈l,b.Used≤m):great l≤m:=by
  rcases (foldl_great l 0).2.2 with h1 | ⟨b,hb,h1⟩
  · exact Int.le_trans (Int.le_of_eq h1) h0
  · exact Int.le_trans (Int.le_of_eq h1) (h b hb)
def before (us:List Int) (k i:Nat):Bool:=decide (us.getD k 0<us.getD i 0)||(us.getD k 0 == us.getD i 0&&decide (k<i))
def rank (us:List Int) (i:Nat):Nat:=(List.range us.length).countP fun k=>before us k i
theorem before_iff (us:List Int) (k i:Nat):before us k i=true↔us.getD k 0<us.getD i 0∨(us.getD k 0=us.getD i 0∧k<i):=by
  unfold before
  simp
theorem before_irr (us:List Int) (i:Nat):before us i i=false:=by
  rw [Bool.eq_false_iff]
  intro h
  rw [before_iff] at h
  omega
theorem before_trans {us:List Int} {k i j:Nat} (h1:before us k i=true) (h2:before us i j=true):before us k j=true:=by
  rw [before_iff] at h1 h2 ⊢
  omega
theorem countP_lt {α:Type} {p q:α→Bool}:∀{l:List α},(∀x∈l,p x=true→q x=true)→(∃x∈l,p x=false∧q x=true)→l.countP p<l.countP q
  | [],_,⟨x,hx,_⟩=>by cases hx
  | a::l,h,⟨x,hx,h1,h2⟩=>by
    have hle:l.countP p≤l.countP q:=List.countP_mono_left fun y hy hp=>h y (by simp [hy]) hp
    rw [List.countP_cons,List.countP_cons]
    rcases List.mem_cons.1 hx with rfl | hx
    · rw [h1,h2]
      simp
      omega
    · have:=countP_lt (l:=l) (fun y hy=>h y (by simp [hy])) ⟨x,hx,h1,h2⟩
      by_cases hpa:p a=true
      · rw [hpa,h a (by simp) hpa]
        simp
        omega
      · rw [Bool.eq_false_iff.2 hpa]
        simp
        omega
theorem rank_lt {us:List Int} {k i:Nat} (hk:k<us.length) (h:before us k i=true):rank us k<rank us i:=
  countP_lt (fun _ _ hx=>before_trans hx h) ⟨k,by simpa using hk,before_irr us k,h⟩
theorem rank_len {us:List Int} {i:Nat} (hi:i<us.length):rank us i<us.length:=by
  have h1:rank us i<(List.range us.length).countP fun _=>true:=countP_lt (fun _ _ _=>rfl) ⟨i,by simpa using hi,before_irr us i,rfl⟩
  simpa using h1
def used (l:List T_Bond):List Int:=l.map (·.Used)
theorem used_getD {l:List T_Bond} {i:Nat} {b:T_Bond} (h:l[i]? = some b):(used l).getD i 0=b.Used:=by
  unfold used
  rw [List.getD_eq_getElem?_getD,List.getElem?_map,h]
  rfl
def rkTo (l:List T_Bond) (n:Nat):List T_Bond:=l.mapIdx fun q b=>if q<n then { b with Used:=(rank (used l) q:Int) } else b
def rk (l:List T_Bond):List T_Bond:=l.mapIdx fun q b=>{ b with Used:=(rank (used l) q:Int) }
theorem rkTo_zero (l:List T_Bond):rkTo l 0=l:=by
  unfold rkTo
  apply List.ext_getElem?
  intro i
  rw [List.getElem?_mapIdx]
  cases l[i]? <;> simp
theorem rkTo_all (l:List T_Bond):rkTo l l.length=rk l:=by
  unfold rkTo rk
  apply List.ext_getElem?
  intro i
  rw [List.getElem?_mapIdx,List.getElem?_mapIdx]
  cases h:l[i]? with
  | none=>rfl
  | some b=>
    have:=(List.getElem?_eq_some_iff.1 h).1
    simp [this]
theorem rkTo_len (l:List T_Bond) (n:Nat):(rkTo l n).length=l.length:=by unfold rkTo; simp
theorem rk_len (l:List T_Bond):(rk l).length=l.length:=by unfold rk; simp
theorem rk_get {l:List T_Bond} {i:Nat} {b:T_Bond} (h:l[i]? = some b):(rk l)[i]? = some { b with Used:=(rank (used l) i:Int) }:=by
  unfold rk
  rw [List.getElem?_mapIdx,h]
  rfl
theorem rkTo_step {l:List T_Bond} {i:Nat} {b:T_Bond} (h:l[i]? = some b):(rkTo l i)[i]? = some b∧(rkTo l i).set i { b with Used:=(rank (used l) i:Int) }=rkTo l (i+1):=by
  have hlt:=(List.getElem?_eq_some_iff.1 h).1
  refine ⟨?_,?_⟩
  · unfold rkTo
    rw [List.getElem?_mapIdx,h]
    simp
  · apply List.ext_getElem?
    intro q
    by_cases hq:q=i
    · subst hq
      rw [List.getElem?_set_self (by rw [rkTo_len]; exact hlt)]
      unfold rkTo
      rw [List.getElem?_mapIdx,h]
      simp
    · rw [List.getElem?_set_ne (fun e=>hq e.symm)]
      unfold rkTo
      rw [List.getElem?_mapIdx,List.getElem?_mapIdx]
      cases l[q]? with
      | none=>rfl
      | some c=>
        simp only [Option.map_some]
        by_cases h1:q<i
        · rw [if_pos h1,if_pos (by omega)]
        · rw [if_neg h1,if_neg (by omega)]
theorem rank_ok (F:Nat) (l:List T_Bond) (i:Nat) (b:T_Bond) (hF:2000<F) (hl:l.length≤1000) (hb:l[i]? = some b):iter (fun s:Int×Int=>bonds_ranked_l2 F l i b s.1 s.2) F (0,0)=some (rank (used l) i:Int):=by
  have hle:∀k,k≤l.length→(List.range k).countP (fun k=>before (used l) k i)≤1000:=fun k hk=>by
    have:=List.countP_le_length (p:=fun k=>before (used l) k i) (l:=List.range k)
    rw [List.length_range] at this
    omega
  have:=iter_count (body:=fun s:Int×Int=>bonds_ranked_l2 F l i b s.1 s.2) (fun k=>(((List.range k).countP (fun k=>before (used l) k i):Nat),(k:Int))) l.length (rank (used l) i:Int) (fun k hk=>by
    have hx:l[k]? = some l[k]:=List.getElem?_eq_getElem hk
    have h1:=hle k (by omega)
    show bonds_ranked_l2 F l i b _ _=_
    unfold bonds_ranked_l2 bonds_ranked_j4
    rw [if_pos (by simp [len]; omega),idx_nat,hx,Option.bind_some,w64_nat k (by omega),w64_nat _ (by omega),List.range_succ,List.countP_append,List.countP_singleton]
    have e:((decide (l[k].Used<b.Used))||((l[k].Used == b.Used)&&(decide ((k:Int)<(i:Int)))))=before (used l) k i:=by
      unfold before
      rw [used_getD hx,used_getD hb]
      congr 2
      exact decide_eq_decide.2 (by omega)
    rw [e]
    cases before (used l) k i <;> rfl) (by
    show bonds_ranked_l2 F l i b _ _=_
    unfold bonds_ranked_l2
    rw [if_neg (by simp [len])]
    unfold rank
    rw [show (used l).length=l.length by unfold used; simp]) F 0 (by omega) (by omega)
  exact this
theorem ranked_ok (F:Nat) (l:List T_Bond) (hF:2000<F) (hl:l.length≤1000) (hs:Few l):bonds_ranked F l=some (rk l):=by
  unfold bonds_ranked bonds_ranked_j1
  rw [clone_ok F l hF hl hs,Option.bind_some]
  have:=iter_count (body:=fun s:List T_Bond×Int=>bonds_ranked_l1 F l s.1 s.2) (fun i=>(rkTo l i,(i:Int))) l.length (rk l) (fun i hi=>by
    have hx:l[i]? = some l[i]:=List.getElem?_eq_getElem hi
    obtain⟨h1,h2⟩:=rkTo_step hx
    show bonds_ranked_l1 F l _ _=_
    unfold bonds_ranked_l1 bonds_ranked_j3 bonds_ranked_j2
    rw [if_pos (by simp [len]; omega),idx_nat,hx,Option.bind_some,rank_ok F l i _ hF hl hx,Option.bind_some,idx_nat,h1,Option.bind_some]
    unfold upd
    rw [if_pos (by rw [rkTo_len]; omega),Option.bind_some,w64_nat i (by omega)]
    show some (Out.next ((rkTo l i).set i _,_))=_
    rw [h2]) (by
    show bonds_ranked_l1 F l _ _=_
    unfold bonds_ranked_l1
    rw [if_neg (by simp [len]),rkTo_all]) F 0 (by omega) (by omega)
  rw [rkTo_zero,show ((0:Nat):Int)=0 from rfl] at this
  rw [this]
  rfl
def nxt (l:List T_Bond):List T_Bond×Int:=if great l≥4294967295 then (rk l,great (rk l)+1) else (l,great l+1)
structure Ok (l:List T_Bond):Prop where
  len:l.length≤16
  few:Few l
  used:∀b∈l,0≤b.Used∧b.Used≤4294967295
theorem great_rk (l:List T_Bond):great (rk l)≤l.length:=by
  refine great_lt (by omega) fun b hb=>?_
  obtain⟨i,hi⟩:=List.getElem?_of_mem hb
  have hlt:=(List.getElem?_eq_some_iff.1 hi).1
  rw [rk_len] at hlt
  rw [rk_get (List.getElem?_eq_getElem hlt)] at hi
  injection hi with hi
  subst hi
  have:=rank_len (us:=used l) (i:=i) (by unfold used; simpa using hlt)
  unfold used at this
  rw [List.length_map] at this
  show ((rank (V.used l) i:Nat):Int)≤_
  unfold used
  omega
theorem rk_few {l:List T_Bond} (h:Few l):Few (rk l):=fun b hb=>by
  obtain⟨i,hi⟩:=List.getElem?_of_mem hb
  have hlt:=(List.getElem?_eq_some_iff.1 hi).1
  rw [rk_len] at hlt
  rw [rk_get (List.getElem?_eq_getElem hlt)] at hi
  injection hi with hi
  subst hi
  exact h l[i] (List.getElem_mem hlt)
theorem nxt_ok (F:Nat) (l:List T_Bond) (hF:2000<F) (h:Ok l):bonds_next F l=some (nxt l):=by
  have hl:=h.len
  unfold bonds_next bonds_next_j1 nxt
  rw [clone_ok F l hF (by omega) h.few,Option.bind_some,great_ok F l hF (by omega),Option.bind_some]
  have hg:=great_lt (m:=4294967295) (by omega) fun b hb=>(h.used b hb).2
  have h0:=great_nonneg l
  by_cases hc:great l≥4294967295
  · rw [if_pos (by simpa using hc),if_pos hc,ranked_ok F l hF (by omega) h.few,Option.bind_some,great_ok F _ hF (by rw [rk_len]; omega),Option.bind_some]
    have h1:=great_rk l
    have h2:=great_nonneg (rk l)
    rw [w64_id (by omega) (by omega)]
  · rw [if_neg (by simpa using hc),if_neg hc,Option.bind_some,w64_id (by omega) (by omega)]
theorem nxt_len (l:List T_Bond):(nxt l).1.length=l.length:=by
  unfold nxt
  split
  · exact rk_len l
  · rfl
theorem nxt_get {l:List T_Bond} (h:Ok l) {i:Nat} {b:T_Bond} (hb:l[i]? = some b):∃u,(nxt l).1[i]? = some { b with Used:=u }∧0≤u∧u<(nxt l).2:=by
  unfold nxt
  split
  · have h1:=rk_get hb
    exact⟨_,h1,by omega,Int.lt_add_one_of_le (great_le (b:={ b with Used:=_ }) (List.mem_of_getElem? h1))⟩
  · exact⟨b.Used,hb,(h.used b (List.mem_of_getElem? hb)).1,Int.lt_add_one_of_le (great_le (List.mem_of_getElem? hb))⟩
theorem nxt_used {l:List T_Bond} (h:Ok l):0<(nxt l).2∧(nxt l).2≤4294967295:=by
  have h1:=great_rk l
  have h2:=great_nonneg (rk l)
  have h3:=great_nonneg l
  have h4:=h.len
  unfold nxt
  split <;> simp only <;> omega
theorem nxt_lt {l:List T_Bond} {i k:Nat} {b c x y:T_Bond} (hb:l[i]? = some b) (hc:l[k]? = some c) (hlt:b.Used<c.Used) (hx:(nxt l).1[i]? = some x) (hy:(nxt l).1[k]? = some y):x.Used<y.Used:=by
  unfold nxt at hx hy
  split at hx
  · rename_i hg
    rw [if_pos hg] at hy
    rw [rk_get hb] at hx
    rw [rk_get hc] at hy
    injection hx with hx
    injection hy with hy
    subst hx; subst hy
    have:=rank_lt (us:=used l) (k:=i) (i:=k) (by unfold used; simpa using (List.getElem?_eq_some_iff.1 hb).1) (by rw [before_iff,used_getD hb,used_getD hc]; exact .inl hlt)
    show ((rank (used l) i:Nat):Int)<((rank (used l) k:Nat):Int)
    omega
  · rename_i hg
    rw [if_neg hg] at hy
    rw [hb] at hx
    rw [hc] at hy
    injection hx with hx
    injection hy with hy
    subst hx; subst hy
    exact hlt
theorem sameA_iff {c x:T_Bond}:sameA c x=true↔x.Peer.Address=c.Peer.Address:=by
  unfold sameA
  constructor
  · intro h
    simp only [Bool.and_eq_true,beq_iff_eq] at h
    cases hx:x.Peer.Address
    cases hc:c.Peer.Address
    rw [hx,hc] at h
    simp only at h
    rw [h.1,h.2]
  · intro h
    simp [h]
theorem iter_find {O:Type} {body:Int→Option (Out Int O)} {l:List T_Bond} {p:T_Bond→Bool} {o:Nat→O} {e:O} (h:∀(i:Nat) x,l[i]? = some x→body (i:Int)=some (if p x=true then .done (o i) else .next ((i+1:Nat):Int))) (he:body (l.length:Int)=some (.done e)) :
    ∀(F i:Nat),i≤l.length→l.length - i<F→iter body F (i:Int)=some (match (l.drop i).findIdx? p with | some k=>o (i+k) | none=>e)
  | 0,i,_,hF=>by omega
  | F+1,i,hi,hF=>by
    by_cases hin:i<l.length
    · have hx:l[i]? = some l[i]:=List.getElem?_eq_getElem hin
      have hdr:l.drop i=l[i]::l.drop (i+1):=List.drop_eq_getElem_cons hin
      have hb:=h i _ hx
      by_cases hp:p l[i]=true
      · rw [if_pos hp] at hb
        rw [iter_stop hb,hdr,List.findIdx?_cons,if_pos hp]
        rfl
      · rw [if_neg hp] at hb
        rw [iter_step hb,iter_find h he F (i+1) hin (by omega),hdr,List.findIdx?_cons,if_neg hp]
        cases (l.drop (i+1)).findIdx? p with
        | none=>rfl
        | some k=>
          simp only [Option.map_some]
          rw [show i+(k+1)=i+1+k by omega]
    · have:i=l.length:=by omega
      subst this
      rw [iter_stop he,List.drop_length]
      rfl
theorem index_ok (F:Nat) (l:List T_Bond) (c:T_Bond) (hF:2000<F) (hl:l.length≤1000):bonds_index_api_Bond_at54 F l c=some (match l.findIdx? (sameA c) with | some k=>(k:Int) | none=>-1):=by
  unfold bonds_index_api_Bond_at54 bonds_index_api_Bond_at54_j1
  have:=iter_find (body:=fun s=>bonds_index_api_Bond_at54_l1 F l c s) (l:=l) (p:=sameA c) (o:=fun i=>.inr (i:Int)) (e:=.inl ()) (fun i x hx=>by
    have hi:=(List.getElem?_eq_some_iff.1 hx).1
    show bonds_index_api_Bond_at54_l1 F l c _=_
    unfold bonds_index_api_Bond_at54_l1 bonds_Add_1
    rw [if_pos (by simp [len]; omega),idx_nat,hx,Option.bind_some,Option.bind_some,w64_nat i (by omega)]
    show (if sameA c x=true then _ else _)=_
    cases sameA c x <;> rfl) (by
    show bonds_index_api_Bond_at54_l1 F l c _=_
    unfold bonds_index_api_Bond_at54_l1
    rw [if_neg (by simp [len])]) F 0 (by omega) (by omega)
  rw [List.drop_zero,show ((0:Nat):Int)=0 from rfl] at this
  rw [this]
  cases l.findIdx? (sameA c) with
  | none=>rfl
  | some k=>simp
def leastTo (l:List T_Bond):Nat→Nat
  | 0=>0
  | i+1=>if (used l).getD i 0<(used l).getD (leastTo l i) 0 then i else leastTo l i
theorem leastTo_lt {l:List T_Bond}:∀{i:Nat},i≤l.length→0<l.length→leastTo l i<l.length
  | 0,_,h=>h
  | i+1,hi,h=>by
    unfold leastTo
    split
    · omega
    · exact leastTo_lt (by omega) h
theorem leastTo_le {l:List T_Bond}:∀{i q:Nat},q<i→(used l).getD (leastTo l i) 0≤(used l).getD q 0
  | 0,q,h=>by omega
  | i+1,q,h=>by
    unfold leastTo
    split
    · rename_i h1
      by_cases hq:q=i
      · subst hq; exact Int.le_refl _
      · have:=leastTo_le (l:=l) (i:=i) (q:=q) (by omega)
        omega
    · rename_i h1
      by_cases hq:q=i
      · subst hq; omega
      · exact leastTo_le (by omega)
def addL (l:List T_Bond) (b:T_Bond):List T_Bond×Nat:=
  match (nxt l).1.findIdx? (sameA b) with
  | some i=>((nxt l).1.set i { b with Used:=(nxt l).2 },i)
  | none=>if (nxt l).1.length<16 then ((nxt l).1++[{ b with Used:=(nxt l).2 }],(nxt l).1.length) else ((nxt l).1.set (leastTo (nxt l).1 (nxt l).1.length) { b with Used:=(nxt l).2 },leastTo (nxt l).1 (nxt l).1.length)
theorem add_j1 (F:Nat) (p:List T_Bond×Int) (b:T_Bond) (i:Nat) (hi:i<p.1.length):bonds_Add_j1 F p b i=some (p.1.set i { b with Used:=p.2 },(i:Int),0):=by
  unfold bonds_Add_j1 upd
  rw [idx_nat,List.getElem?_eq_getElem hi,Option.bind_some,if_pos (by omega),Option.bind_some]
  rfl
theorem add_ok (F:Nat) (l:List T_Bond) (b:T_Bond) (hF:2000<F) (h:Ok l) (hb:bonds_Check F b=some 0) (hs:b.Subs.length≤1000):bonds_Add F l b=some ((addL l b).1,((addL l b).2:Int),0):=by
  have hl:=h.len
  have hn:=len_nat l
  unfold bonds_Add
  rw [if_neg (by simp; omega),hb,Option.bind_some,if_neg (by decide),nxt_ok F l hF h,Option.bind_some,own_ok F b hs,Option.bind_some]
  have hnl:=nxt_len l
  have hsa:sameA { b with Used:=(nxt l).2 }=sameA b:=rfl
  rw [index_ok F _ _ hF (by omega),Option.bind_some,hsa]
  unfold addL
  have hm:=len_nat (nxt l).1
  cases hf:(nxt l).1.findIdx? (sameA b) with
  | some k=>
    have hk:k<(nxt l).1.length:=by
      have:=List.findIdx?_eq_some_iff_getElem.1 hf
      exact this.1
    simp only
    rw [if_neg (by simp; omega),if_neg (by simp),add_j1 F _ _ _ hk]
  | none=>
    simp only
    by_cases h16:(nxt l).1.length<16
    · rw [if_pos (by simp; omega),if_pos h16,app_small (by simp; omega) (by omega),Option.bind_some]
      unfold lens
      rw [len_nat,List.length_map]
    · rw [if_neg (by simp; omega),if_neg h16,if_pos (by decide)]
      have:=iter_count (body:=fun s:Int×Int=>bonds_Add_l1 F (nxt l) s.1 s.2) (fun i=>((leastTo (nxt l).1 i:Int),(i:Int))) (nxt l).1.length (leastTo (nxt l).1 (nxt l).1.length:Int) (fun i hi=>by
        have hx:(nxt l).1[i]? = some (nxt l).1[i]:=List.getElem?_eq_getElem hi
        have hlt:=leastTo_lt (l:=(nxt l).1) (i:=i) (by omega) (by omega)
        have hy:(nxt l).1[leastTo (nxt l).1 i]? = some (nxt l).1[leastTo (nxt l).1 i]:=List.getElem?_eq_getElem hlt
        show bonds_Add_l1 F (nxt l) _ _=_
        unfold bonds_Add_l1 bonds_Add_j3 bonds_Add_j2
        rw [if_pos (by simp [len]; omega),idx_nat,hx,Option.bind_some,idx_nat,hy,Option.bind_some,w64_nat i (by omega)]
        show _=some (Out.next (((leastTo (nxt l).1 (i+1):Nat):Int),_))
        rw [leastTo,used_getD hx,used_getD hy]
        by_cases hc:(nxt l).1[i].Used<(nxt l).1[leastTo (nxt l).1 i].Used
        · rw [if_pos (by simpa using hc),if_pos hc]
        · rw [if_neg (by simpa using hc),if_neg hc]) (by
        show bonds_Add_l1 F (nxt l) _ _=_
        unfold bonds_Add_l1
        rw [if_neg (by simp [len])]) F 0 (by omega) (by omega)
      rw [show ((0:Nat):Int)=0 from rfl] at this
      show (iter (fun s:Int×Int=>bonds_Add_l1 F (nxt l) s.1 s.2) F (((leastTo (nxt l).1 0:Nat):Int),0)).bind _=_
      rw [this,Option.bind_some,add_j1 F _ _ _ (leastTo_lt (by omega) (by omega))]
def touchL (l:List T_Bond) (i:Nat):List T_Bond:=match (nxt l).1[i]? with
  | some b=>(nxt l).1.set i { b with Used:=(nxt l).2 }
  | none=>l
theorem touch_ok (F:Nat) (l:List T_Bond) (i:Nat) (hF:2000<F) (h:Ok l) (hi:i<l.length):bonds_Touch F l i=some (touchL l i):=by
  have hl:=h.len
  have hn:=len_nat l
  unfold bonds_Touch touchL upd
  have hlt:i<(nxt l).1.length:=by rw [nxt_len]; exact hi
  have hx:(nxt l).1[i]? = some (nxt l).1[i]:=List.getElem?_eq_getElem hlt
  rw [if_neg (by simp; omega),nxt_ok F l hF h,Option.bind_some,idx_nat,hx,Option.bind_some,if_pos (by rw [nxt_len]; omega),Option.bind_some]
  rfl
theorem touch_out (F:Nat) (l:List T_Bond) (i:Int) (hF:2000<F) (h:Ok l) (hi:i<0∨i≥l.length):bonds_Touch F l i=some l:=by
  have hl:=h.len
  have hn:=len_nat l
  unfold bonds_Touch
  rw [if_pos (by simp; omega),clone_ok F l hF (by omega) h.few,Option.bind_some]
theorem mem_set {α:Type} {l:List α} {i:Nat} {c x:α} (h:x∈l.set i c):x=c∨x∈l:=by
  rcases List.mem_or_eq_of_mem_set h with h | h
  · exact .inr h
  · exact .inl h
theorem nxt_mem {l:List T_Bond} (h:Ok l) {x:T_Bond} (hx:x∈(nxt l).1):x.Subs.length≤1000∧0≤x.Used∧x.Used<(nxt l).2:=by
  obtain⟨i,hi⟩:=List.getElem?_of_mem hx
  have hlt:=(List.getElem?_eq_some_iff.1 hi).1
  rw [nxt_len] at hlt
  obtain⟨u,k1,k2,k3⟩:=nxt_get h (List.getElem?_eq_getElem hlt)
  rw [k1] at hi
  injection hi with hi
  subst hi
  exact⟨h.few l[i] (List.getElem_mem hlt),k2,k3⟩
theorem least_len {l:List T_Bond} (h:0<l.length):leastTo l l.length<l.length:=leastTo_lt (Nat.le_refl _) h
theorem addL_ok {l:List T_Bond} (h:Ok l) {b:T_Bond} (hb:b.Subs.length≤1000) :
    Ok (addL l b).1∧(∃c,(addL l b).1[(addL l b).2]? = some c∧c.Peer.Address=b.Peer.Address∧∀q x,q≠(addL l b).2→(addL l b).1[q]? = some x→x.Used<c.Used):=by
  have hl:=h.len
  have hnl:=nxt_len l
  have hu:=nxt_used h
  have hset:∀i,i<(nxt l).1.length→Ok ((nxt l).1.set i { b with Used:=(nxt l).2 })∧(∃c,((nxt l).1.set i { b with Used:=(nxt l).2 })[i]? = some c∧c.Peer.Address=b.Peer.Address∧∀q x,q≠i→((nxt l).1.set i { b with Used:=(nxt l).2 })[q]? = some x→x.Used<c.Used):=fun i hi=>by
    refine ⟨⟨by rw [List.length_set]; omega,fun x hx=>?_,fun x hx=>?_⟩,_,List.getElem?_set_self hi,rfl,fun q x hq hx=>?_⟩
    · rcases mem_set hx with rfl | hx
      · exact hb
      · exact (nxt_mem h hx).1
    · rcases mem_set hx with rfl | hx
      · show 0≤(nxt l).2∧(nxt l).2≤4294967295
        omega
      · have:=nxt_mem h hx
        omega
    · rw [List.getElem?_set_ne (fun e=>hq e.symm)] at hx
      exact (nxt_mem h (List.mem_of_getElem? hx)).2.2
  unfold addL
  cases hf:(nxt l).1.findIdx? (sameA b) with
  | some k=>
    have hk:k<(nxt l).1.length:=(List.findIdx?_eq_some_iff_getElem.1 hf).1
    exact hset k hk
  | none=>
    simp only
    by_cases h16:(nxt l).1.length<16
    · rw [if_pos h16]
      refine ⟨⟨by simp; omega,fun x hx=>?_,fun x hx=>?_⟩,{ b with Used:=(nxt l).2 },by simp,rfl,fun q x hq hx=>?_⟩
      · rcases List.mem_append.1 hx with hx | hx
        · exact (nxt_mem h hx).1
        · rw [List.mem_singleton] at hx
          subst hx
          exact hb
      · rcases List.mem_append.1 hx with hx | hx
        · have:=nxt_mem h hx
          omega
        · rw [List.mem_singleton] at hx
          subst hx
          show 0≤(nxt l).2∧(nxt l).2≤4294967295
          omega
      · have hq2:q<(nxt l).1.length:=by
          have:=(List.getElem?_eq_some_iff.1 hx).1
          simp at this
          simp at hq
          omega
        rw [List.getElem?_append_left hq2] at hx
        exact (nxt_mem h (List.mem_of_getElem? hx)).2.2
    · rw [if_neg h16]
      exact hset _ (least_len (by omega))
theorem touchL_ok {l:List T_Bond} (h:Ok l) {i:Nat} {b:T_Bond} (hb:l[i]? = some b):Ok (touchL l i)∧∃c,(touchL l i)[i]? = some c∧c.Peer.Address=b.Peer.Address∧∀q x,q≠i→(touchL l i)[q]? = some x→x.Used<c.Used:=by
  have hl:=h.len
  have hnl:=nxt_len l
  have hu:=nxt_used h
  obtain⟨u,k1,_,_⟩:=nxt_get h hb
  have hlt:=(List.getElem?_eq_some_iff.1 k1).1
  unfold touchL
  rw [k1]
  refine ⟨⟨by simp only [List.length_set]; omega,fun x hx=>?_,fun x hx=>?_⟩,_,List.getElem?_set_self hlt,rfl,fun q x hq hx=>?_⟩
  · rcases mem_set hx with rfl | hx
    · exact h.few b (List.mem_of_getElem? hb)
    · exact (nxt_mem h hx).1
  · rcases mem_set hx with rfl | hx
    · show 0≤(nxt l).2∧(nxt l).2≤4294967295
      omega
    · have:=nxt_mem h hx
      omega
  · simp only at hx
    rw [List.getElem?_set_ne (fun e=>hq e.symm)] at hx
    exact (nxt_mem h (List.mem_of_getElem? hx)).2.2
theorem add_bad (F:Nat) (l:List T_Bond) (b:T_Bond) (e:Int) (hF:2000<F) (h:Ok l) (hb:bonds_Check F b=some e) (he:e≠0):bonds_Add F l b=some (l,0,e):=by
  have hl:=h.len
  have hn:=len_nat l
  unfold bonds_Add
  rw [if_neg (by simp; omega),hb,Option.bind_some,if_pos (by simpa using he),clone_ok F l hF (by omega) h.few,Option.bind_some]
theorem copy_ok' (F:Nat) (l:List T_Bond) (hF:2000<F) (h:Ok l):wirelessref40_Copy F l=some l:=copy_ok F l hF (by have:=h.len; omega) h.few
theorem sameA_ne {c x:T_Bond}:sameA c x=false↔x.Peer.Address≠c.Peer.Address:=by
  rw [← Bool.not_eq_true,sameA_iff]
theorem any_same {l:List T_Bond} {b:T_Bond}:l.any (sameA b)=true↔∃x∈l,x.Peer.Address=b.Peer.Address:=by
  rw [List.any_eq_true]
  exact⟨fun ⟨x,h1,h2⟩=>⟨x,h1,sameA_iff.1 h2⟩,fun ⟨x,h1,h2⟩=>⟨x,h1,sameA_iff.2 h2⟩⟩
theorem any_ne {l:List T_Bond} {b:T_Bond} (h:l.any (sameA b)=false):∀x∈l,x.Peer.Address≠b.Peer.Address:=fun x hx e=>by
  rw [any_same.2 ⟨x,hx,e⟩] at h
  cases h
theorem ad_cases (l:List T_Bond) (o:Option T_Bond):(o=none∧ad l o=l)∨∃b,o=some b∧((l.any (sameA b)=true∧ad l o=l)∨(l.any (sameA b)=false∧ad l o=l++[b])):=by
  cases o with
  | none=>exact .inl ⟨rfl,rfl⟩
  | some b=>
    refine .inr ⟨b,rfl,?_⟩
    show (_∧(if l.any (sameA b)=true then l else l++[b])=l)∨(_∧(if l.any (sameA b)=true then l else l++[b])=l++[b])
    cases l.any (sameA b)
    · exact .inr ⟨rfl,rfl⟩
    · exact .inl ⟨rfl,rfl⟩
section
variable {F:Nat} {vs:Nat→List Int}
theorem ld_mono {n:Nat} {x:T_Bond} (h:x∈ld F vs n):x∈ld F vs (n+1):=by
  rw [ld]
  rcases ad_cases (ld F vs n) (decO F (vs n)) with ⟨_,e⟩ | ⟨b,_,⟨_,e⟩ | ⟨_,e⟩⟩
  · rw [e]; exact h
  · rw [e]; exact h
  · rw [e]; exact List.mem_append_left _ h
theorem ld_has:∀(n k:Nat) (b:T_Bond),k<n→decO F (vs k)=some b→∃x∈ld F vs n,x.Peer.Address=b.Peer.Address
  | 0,k,b,h,_=>by omega
  | n+1,k,b,h,hd=>by
    by_cases hk:k<n
    · obtain⟨x,h1,h2⟩:=ld_has n k b hk hd
      exact⟨x,ld_mono h1,h2⟩
    · have:k=n:=by omega
      subst this
      rw [ld]
      rcases ad_cases (ld F vs k) (decO F (vs k)) with ⟨e0,_⟩ | ⟨c,e0,⟨e1,e⟩ | ⟨_,e⟩⟩
      · rw [hd] at e0
        cases e0
      · rw [hd] at e0
        obtain rfl:=Option.some.inj e0
        obtain⟨x,h1,h2⟩:=any_same.1 e1
        exact⟨x,by rw [e]; exact h1,h2⟩
      · rw [hd] at e0
        obtain rfl:=Option.some.inj e0
        exact⟨b,by rw [e]; simp,rfl⟩
theorem ld_at:∀(n j:Nat) (x:T_Bond),(ld F vs n)[j]? = some x→∃k,j≤k∧k<n∧decO F (vs k)=some x∧∀k' c,k'<k→decO F (vs k')=some c→c.Peer.Address≠x.Peer.Address
  | 0,j,x,h=>by
    rw [ld] at h
    cases h
  | n+1,j,x,h=>by
    have up:(ld F vs n)[j]? = some x→∃k,j≤k∧k<n+1∧decO F (vs k)=some x∧∀k' c,k'<k→decO F (vs k')=some c→c.Peer.Address≠x.Peer.Address:=fun h=>by
      obtain⟨k,h1,h2,h3⟩:=ld_at n j x h
      exact⟨k,h1,by omega,h3⟩
    rw [ld] at h
    rcases ad_cases (ld F vs n) (decO F (vs n)) with ⟨_,e⟩ | ⟨b,e0,⟨_,e⟩ | ⟨e1,e⟩⟩
    · rw [e] at h
      exact up h
    · rw [e] at h
      exact up h
    · rw [e] at h
      by_cases hj:j<(ld F vs n).length
      · rw [List.getElem?_append_left hj] at h
        exact up h
      · have hl:=ld_len F vs n
        have hlt:=(List.getElem?_eq_some_iff.1 h).1
        rw [List.length_append,List.length_singleton] at hlt
        rw [List.getElem?_append_right (by omega),show j - (ld F vs n).length=0 by omega,List.getElem?_cons_zero] at h
        obtain rfl:=Option.some.inj h
        refine ⟨n,by omega,by omega,e0,fun k' c hk hc he=>?_⟩
        obtain⟨y,y1,y2⟩:=ld_has n k' c hk hc
        exact any_ne e1 y y1 (y2.trans he)
end
theorem dis_inj {l:List T_Bond} (h:Dis l) {i j:Nat} {x y:T_Bond} (hx:l[i]? = some x) (hy:l[j]? = some y) (he:x.Peer.Address=y.Peer.Address):i=j:=by
  by_cases h1:i<j
  · exact absurd he (sameA_ne.1 (h j i y x h1 hy hx))
  · by_cases h2:j<i
    · exact absurd he.symm (sameA_ne.1 (h i j x y h2 hx hy))
    · omega
theorem dis_snoc {l:List T_Bond} (h:Dis l) {b:T_Bond} (hb:∀y∈l,y.Peer.Address≠b.Peer.Address):Dis (l++[b]):=fun i k x y hki hx hy=>by
  have hi:=(List.getElem?_eq_some_iff.1 hx).1
  rw [List.length_append,List.length_singleton] at hi
  rw [List.getElem?_append_left (by omega)] at hy
  by_cases hil:i<l.length
  · rw [List.getElem?_append_left hil] at hx
    exact h i k x y hki hx hy
  · rw [List.getElem?_append_right (by omega),show i - l.length=0 by omega,List.getElem?_cons_zero] at hx
    obtain rfl:=Option.some.inj hx
    exact sameA_ne.2 (hb y (List.mem_of_getElem? hy))
theorem ld_dis (F:Nat) (vs:Nat→List Int):∀n,Dis (ld F vs n)
  | 0=>fun i k x y _ hx=>by
    rw [ld] at hx
    cases hx
  | n+1=>by
    have ih:=ld_dis F vs n
    rw [ld]
    rcases ad_cases (ld F vs n) (decO F (vs n)) with ⟨_,e⟩ | ⟨b,_,⟨_,e⟩ | ⟨e1,e⟩⟩
    · rw [e]; exact ih
    · rw [e]; exact ih
    · rw [e]; exact dis_snoc ih (any_ne e1)
structure Wfl (l:List T_Bond):Prop where
  len:l.length≤16
  vb:∀b∈l,VB b
  rb:∀b∈l,RB b
  dis:Dis l
theorem Wfl.ok {l:List T_Bond} (h:Wfl l):Ok l:=⟨h.len,fun b hb=>by have:=(h.vb b hb).few; omega,fun b hb=>(h.vb b hb).used⟩
def Mv (a c:List T_Bond):Prop:=∀(q:Nat) (y:T_Bond),c[q]? = some y→(∃(j:Nat) (x:T_Bond),a[j]? = some x∧q≤j∧x.Peer.Address=y.Peer.Address)∨∀x∈a,x.Peer.Address≠y.Peer.Address
theorem Mv.le {a c:List T_Bond} (h:Mv a c) (hd:Dis a) {j q:Nat} {x y:T_Bond} (hx:a[j]? = some x) (hy:c[q]? = some y) (he:x.Peer.Address=y.Peer.Address):q≤j:=by
  rcases h q y hy with ⟨j',x',h1,h2,h3⟩ | h1
  · have:=dis_inj hd hx h1 (he.trans h3.symm)
    omega
  · exact absurd he (h1 x (List.mem_of_getElem? hx))
theorem mv_rfl (a:List T_Bond):Mv a a:=fun q y hy=>.inl ⟨q,y,hy,Nat.le_refl _,rfl⟩
structure Sm (l n:List T_Bond):Prop where
  len:n.length=l.length
  at_:∀(i:Nat) (b:T_Bond),l[i]? = some b→∃u,n[i]? = some { b with Used:=u }∧0≤u∧u≤4294967295
theorem Sm.back {l n:List T_Bond} (h:Sm l n) {i:Nat} {y:T_Bond} (hy:n[i]? = some y):∃b,l[i]? = some b∧∃u,y = { b with Used:=u }∧0≤u∧u≤4294967295:=by
  have hi:=(List.getElem?_eq_some_iff.1 hy).1
  rw [h.len] at hi
  have hx:=List.getElem?_eq_getElem hi
  obtain⟨u,h1,h2,h3⟩:=h.at_ i _ hx
  rw [h1] at hy
  exact⟨_,hx,u,(Option.some.inj hy).symm,h2,h3⟩
theorem vb_used {b:T_Bond} (h:VB b) {u:Int} (h0:0≤u) (h1:u≤4294967295):VB { b with Used:=u }:=⟨h.adr,h.kind,⟨h0,h1⟩,h.few,h.subs⟩
theorem rb_used {b:T_Bond} (h:RB b) (u:Int):RB { b with Used:=u }:=⟨h.bits,h.irk,h.ltk,h.mark,h.hash,h.hand⟩
theorem Sm.wl {l n:List T_Bond} (h:Sm l n) (w:Wfl l):Wfl n:=by
  refine ⟨by rw [h.len]; exact w.len,fun y hy=>?_,fun y hy=>?_,fun i k x y hki hx hy=>?_⟩
  · obtain⟨i,hi⟩:=List.getElem?_of_mem hy
    obtain⟨b,hb,u,rfl,u0,u1⟩:=h.back hi
    exact vb_used (w.vb b (List.mem_of_getElem? hb)) u0 u1
  · obtain⟨i,hi⟩:=List.getElem?_of_mem hy
    obtain⟨b,hb,u,rfl,u0,u1⟩:=h.back hi
    exact rb_used (w.rb b (List.mem_of_getElem? hb)) u
  · obtain⟨b,hb,u,rfl,_⟩:=h.back hx
    obtain⟨c,hc,v,rfl,_⟩:=h.back hy
    exact w.dis i k b c hki hb hc
theorem Sm.mv {l n c:List T_Bond} (h:Sm l n) (m:Mv n c):Mv l c:=fun q y hy=>by
  rcases m q y hy with ⟨j,x,h1,h2,h3⟩ | h1
  · obtain⟨b,hb,u,rfl,_⟩:=h.back h1
    exact .inl ⟨j,b,hb,h2,h3⟩
  · refine .inr fun x hx=>?_
    obtain⟨i,hi⟩:=List.getElem?_of_mem hx
    obtain⟨u,h2,_⟩:=h.at_ i x hi
    have h3:=h1 _ (List.mem_of_getElem? h2)
    exact h3
theorem nxt_sm {l:List T_Bond} (w:Wfl l):Sm l (nxt l).1:=⟨nxt_len l,fun i b hb=>by
  obtain⟨u,h1,h2,h3⟩:=nxt_get w.ok hb
  have:=nxt_used w.ok
  exact⟨u,h1,h2,by omega⟩⟩
theorem set_wl {n:List T_Bond} (w:Wfl n) {k:Nat} (hk:k<n.length) {c:T_Bond} (hv:VB c) (hr:RB c) (hne:∀(i:Nat) (x:T_Bond),n[i]? = some x→i≠k→x.Peer.Address≠c.Peer.Address):Wfl (n.set k c)∧Mv n (n.set k c):=by
  have get:∀(i:Nat) (x:T_Bond),(n.set k c)[i]? = some x→(i=k∧x=c)∨(i≠k∧n[i]? = some x):=fun i x h=>by
    by_cases hik:i=k
    · subst hik
      rw [List.getElem?_set_self hk] at h
      exact .inl ⟨rfl,(Option.some.inj h).symm⟩
    · rw [List.getElem?_set_ne (fun e=>hik e.symm)] at h
      exact .inr ⟨hik,h⟩
  refine ⟨⟨by rw [List.length_set]; exact w.len,fun x hx=>?_,fun x hx=>?_,fun i j x y hji hx hy=>?_⟩,fun q y hy=>?_⟩
  · rcases mem_set hx with rfl | hx
    · exact hv
    · exact w.vb x hx
  · rcases mem_set hx with rfl | hx
    · exact hr
    · exact w.rb x hx
  · rcases get i x hx with ⟨rfl,rfl⟩ | ⟨h1,h2⟩
    · rcases get j y hy with ⟨rfl,rfl⟩ | ⟨h3,h4⟩
      · omega
      · exact sameA_ne.2 (hne j y h4 h3)
    · rcases get j y hy with ⟨rfl,rfl⟩ | ⟨h3,h4⟩
      · exact sameA_ne.2 fun e=>hne i x h2 h1 e.symm
      · exact w.dis i j x y hji h2 h4
  · rcases get q y hy with ⟨rfl,rfl⟩ | ⟨h1,h2⟩
    · by_cases he:n[q].Peer.Address=y.Peer.Address
      · exact .inl ⟨q,n[q],List.getElem?_eq_getElem hk,Nat.le_refl _,he⟩
      · refine .inr fun x hx e=>?_
        obtain⟨i,hi⟩:=List.getElem?_of_mem hx
        by_cases hiq:i=q
        · subst hiq
          rw [List.getElem?_eq_getElem hk] at hi
          rw [Option.some.inj hi] at he
          exact he e
        · exact hne i x hi hiq e
    · exact .inl ⟨q,y,h2,Nat.le_refl _,rfl⟩
theorem snoc_wl {n:List T_Bond} (w:Wfl n) (hl:n.length<16) {c:T_Bond} (hv:VB c) (hr:RB c) (hne:∀x∈n,x.Peer.Address≠c.Peer.Address):Wfl (n++[c])∧Mv n (n++[c]):=by
  refine ⟨⟨by simp; omega,fun x hx=>?_,fun x hx=>?_,dis_snoc w.dis hne⟩,fun q y hy=>?_⟩
  · rcases List.mem_append.1 hx with hx | hx
    · exact w.vb x hx
    · rw [List.mem_singleton] at hx
      subst hx
      exact hv
  · rcases List.mem_append.1 hx with hx | hx
    · exact w.rb x hx
    · rw [List.mem_singleton] at hx
      subst hx
      exact hr
  · by_cases hq:q<n.length
    · rw [List.getElem?_append_left hq] at hy
      exact .inl ⟨q,y,hy,Nat.le_refl _,rfl⟩
    · have hlt:=(List.getElem?_eq_some_iff.1 hy).1
      rw [List.length_append,List.length_singleton] at hlt
      rw [List.getElem?_append_right (by omega),show q - n.length=0 by omega,List.getElem?_cons_zero] at hy
      obtain rfl:=Option.some.inj hy
      exact .inr hne
theorem addL_wl {l:List T_Bond} (w:Wfl l) {b:T_Bond} (hv:VB b) (hr:RB b):Wfl (addL l b).1∧Mv l (addL l b).1:=by
  have hs:=nxt_sm w
  have wn:=hs.wl w
  have hu:=nxt_used w.ok
  have hc:VB { b with Used:=(nxt l).2 }:=vb_used hv (by omega) (by omega)
  have hrc:RB { b with Used:=(nxt l).2 }:=rb_used hr _
  unfold addL
  cases hf:(nxt l).1.findIdx? (sameA b) with
  | some k=>
    obtain⟨hk,h1,_⟩:=List.findIdx?_eq_some_iff_getElem.1 hf
    obtain⟨a1,a2⟩:=set_wl wn hk hc hrc fun i x hx hik e=>hik (dis_inj wn.dis hx (List.getElem?_eq_getElem hk) (e.trans (sameA_iff.1 h1).symm))
    exact⟨a1,hs.mv a2⟩
  | none=>
    have hno:∀x∈(nxt l).1,x.Peer.Address≠b.Peer.Address:=fun x hx=>sameA_ne.1 (List.findIdx?_eq_none_iff.1 hf x hx)
    simp only
    by_cases h16:(nxt l).1.length<16
    · rw [if_pos h16]
      obtain⟨a1,a2⟩:=snoc_wl wn h16 hc hrc hno
      exact⟨a1,hs.mv a2⟩
    · rw [if_neg h16]
      obtain⟨a1,a2⟩:=set_wl wn (least_len (by omega)) hc hrc fun i x hx _=>hno x (List.mem_of_getElem? hx)
      exact⟨a1,hs.mv a2⟩
theorem touchL_wl {l:List T_Bond} (w:Wfl l) {i:Nat} (hi:i<l.length):Wfl (touchL l i)∧Mv l (touchL l i):=by
  have hs:=nxt_sm w
  have wn:=hs.wl w
  have hu:=nxt_used w.ok
  have hlt:i<(nxt l).1.length:=by rw [nxt_len]; exact hi
  have hx:=List.getElem?_eq_getElem hlt
  unfold touchL
  rw [hx]
  have hmem:=List.getElem_mem hlt
  obtain⟨a1,a2⟩:=set_wl wn hlt (c:={ (nxt l).1[i] with Used:=(nxt l).2 }) (vb_used (wn.vb _ hmem) (by omega) (by omega)) (rb_used (wn.rb _ hmem) _) fun j x hj hji e=>hji (dis_inj wn.dis hj hx e)
  exact⟨a1,hs.mv a2⟩
theorem rem_wl {l:List T_Bond} (w:Wfl l) (k:Nat):Wfl (l.take k++l.drop (k+1))∧Mv l (l.take k++l.drop (k+1)):=by
  have get:∀(i:Nat) (x:T_Bond),(l.take k++l.drop (k+1))[i]? = some x→∃j,i≤j∧(i<k→j=i)∧(k≤i→j=i+1)∧l[j]? = some x:=fun i x h=>by
    by_cases hik:i<(l.take k).length
    · rw [List.getElem?_append_left hik,List.getElem?_take] at h
      rw [List.length_take] at hik
      rw [if_pos (by omega)] at h
      exact⟨i,Nat.le_refl _,fun _=>rfl,fun _=>by omega,h⟩
    · have hlt:=(List.getElem?_eq_some_iff.1 h).1
      rw [List.getElem?_append_right (by omega),List.getElem?_drop] at h
      rw [List.length_append,List.length_take,List.length_drop] at hlt
      rw [List.length_take] at hik h
      exact⟨_,by omega,fun _=>by omega,fun _=>by omega,h⟩
  have mem:∀x∈l.take k++l.drop (k+1),x∈l:=fun x hx=>by
    rcases List.mem_append.1 hx with hx | hx
    · exact List.mem_of_mem_take hx
    · exact List.mem_of_mem_drop hx
  refine ⟨⟨by have:=w.len; simp; omega,fun x hx=>w.vb x (mem x hx),fun x hx=>w.rb x (mem x hx),fun i j x y hji hx hy=>?_⟩,fun q y hy=>?_⟩
  · obtain⟨i',a1,a2,a3,a4⟩:=get i x hx
    obtain⟨j',b1,b2,b3,b4⟩:=get j y hy
    refine w.dis i' j' x y ?_ a4 b4
    by_cases h1:i<k
    · have:=a2 h1
      have:=b2 (by omega)
      omega
    · have:=a3 (by omega)
      by_cases h2:j<k
      · have:=b2 h2
        omega
      · have:=b3 (by omega)
        omega
  · obtain⟨j,a1,_,_,a4⟩:=get q y hy
    exact .inl ⟨j,y,a4,a1,rfl⟩
def vsOf (l:List T_Bond) (k:Nat):List Int:=match l[k]? with
  | some b=>encB b
  | none=>[]
theorem decO_enc (F:Nat) (b:T_Bond) (hF:2000<F) (hv:VB b) (hr:RB b):decO F (encB b)=some b:=by
  unfold decO
  rw [dec_enc F b hF hv hr,Option.bind_some,if_pos rfl]
theorem decO_of {F:Nat} {l:List T_Bond} (w:Wfl l) (hF:2000<F) {k:Nat} {b:T_Bond}:decO F (vsOf l k)=some b↔l[k]? = some b:=by
  unfold vsOf
  cases hx:l[k]? with
  | none=>
    simp only
    rw [decO_nil]
  | some c=>
    have hm:=List.mem_of_getElem? hx
    simp only
    rw [decO_enc F c hF (w.vb c hm) (w.rb c hm)]
structure Btw (was now got:List T_Bond):Prop where
  a:∀b∈got,(∃x∈was,x.Peer.Address=b.Peer.Address)∨∃y∈now,y.Peer.Address=b.Peer.Address
  k:∀b∈got,(∃x∈was,x.Peer.Address=b.Peer.Address)→(∃y∈now,y.Peer.Address=b.Peer.Address)→(∃x∈was,x.Peer.Address=b.Peer.Address∧x.LTK=b.LTK)∨∃y∈now,y.Peer.Address=b.Peer.Address∧y.LTK=b.LTK
  s:∀x∈was,(∃y∈now,y.Peer.Address=x.Peer.Address)→∃b∈got,b.Peer.Address=x.Peer.Address
theorem btw {F:Nat} {v0 vm:Nat→List Int} {now:List T_Bond} (w:Wfl now) (m:Mv (ld F v0 16) now) (i:Nat) (hm:∀j,j<16→vm j=if j<i then vsOf now j else v0 j) (hF:2000<F):Btw (ld F v0 16) now (ld F vm 16):=by
  have hd0:=ld_dis F v0 16
  have hnl:=w.len
  have src:∀b∈ld F vm 16,∃k,k<16∧((k<i∧now[k]? = some b)∨(i≤k∧decO F (v0 k)=some b))∧∀k' c,k'<k→decO F (vm k')=some c→c.Peer.Address≠b.Peer.Address:=fun b hb=>by
    obtain⟨j,hj⟩:=List.getElem?_of_mem hb
    obtain⟨k,h1,h2,h3,h4⟩:=ld_at 16 j b hj
    refine ⟨k,h2,?_,h4⟩
    rw [hm k h2] at h3
    by_cases hki:k<i
    · rw [if_pos hki,decO_of w hF] at h3
      exact .inl ⟨hki,h3⟩
    · rw [if_neg hki] at h3
      exact .inr ⟨by omega,h3⟩
  refine ⟨fun b hb=>?_,fun b hb hw hn=>?_,fun x hx hn=>?_⟩
  · obtain⟨k,k16,⟨_,h1⟩ | ⟨_,h1⟩,_⟩:=src b hb
    · exact .inr ⟨b,List.mem_of_getElem? h1,rfl⟩
    · exact .inl (ld_has 16 k b k16 h1)
  · obtain⟨k,k16,⟨_,h1⟩ | ⟨hik,h1⟩,hfirst⟩:=src b hb
    · exact .inr ⟨b,List.mem_of_getElem? h1,rfl,rfl⟩
    · obtain⟨x,hx,hxa⟩:=hw
      obtain⟨j,hj⟩:=List.getElem?_of_mem hx
      obtain⟨p,p1,p2,p3,p4⟩:=ld_at 16 j x hj
      by_cases hpk:p=k
      · subst hpk
        rw [h1] at p3
        rw [Option.some.inj p3]
        exact .inl ⟨x,hx,rfl,rfl⟩
      · exfalso
        have hpk2:p<k:=by
          by_cases h:p<k
          · exact h
          · exact absurd hxa.symm (p4 k b (by omega) h1)
        have hpi:p<i:=by
          by_cases h:p<i
          · exact h
          · exact absurd hxa (hfirst p x hpk2 (by rw [hm p (by omega),if_neg h]; exact p3))
        obtain⟨y,hy,hya⟩:=hn
        obtain⟨q,hq⟩:=List.getElem?_of_mem hy
        have hqj:=m.le hd0 hj hq (hxa.trans hya.symm)
        exact hfirst q y (by omega) (by rw [hm q (by omega),if_pos (by omega),decO_of w hF]; exact hq) hya
  · obtain⟨y,hy,hya⟩:=hn
    obtain⟨j,hj⟩:=List.getElem?_of_mem hx
    obtain⟨p,p1,p2,p3,p4⟩:=ld_at 16 j x hj
    by_cases hpi:p<i
    · obtain⟨q,hq⟩:=List.getElem?_of_mem hy
      have hqj:=m.le hd0 hj hq hya.symm
      obtain⟨b,b1,b2⟩:=ld_has (F:=F) (vs:=vm) 16 q y (by omega) (by rw [hm q (by omega),if_pos (by omega),decO_of w hF]; exact hq)
      exact⟨b,b1,b2.trans hya⟩
    · exact ld_has (F:=F) (vs:=vm) 16 p x p2 (by rw [hm p p2,if_neg hpi]; exact p3)
end V
end Go.Proofs.YtbdhonofhlpdoaaDoor
