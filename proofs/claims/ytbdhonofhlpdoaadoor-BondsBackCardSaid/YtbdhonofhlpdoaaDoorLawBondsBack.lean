/- BondsBack. -/
import Derived.Test.YtbdhonofhlpdoaaDoorLawK
import Derived.Test.YtbdhonofhlpdoaaDoorOpen
namespace Go.Proofs.YtbdhonofhlpdoaaDoor
namespace V
theorem nx {s A R:List Int} {i k:Nat} (h:s.drop i=A++R) (hk:A.length=k):s.drop (i+k)=R∧(s.drop i).take k=A:=by
  subst hk
  rw [← List.drop_drop,h]
  exact⟨List.drop_left,List.take_left⟩
theorem num_id {k:Nat} {x:Int} (h0:0≤x) (h1:x<256 ^ k):num (leb k x)=x:=by rw [num_leb,Int.emod_eq_of_lt h0 h1]
theorem get_drop {s R:List Int} {i:Nat} {x:Int} (h:s.drop i=leb 1 x++R) (h0:0≤x) (h1:x<256):s[i]? = some x:=by
  have:(s.drop i)[0]? = some (x % 256):=by rw [h]; rfl
  rw [List.getElem?_drop,Nat.add_zero,Int.emod_eq_of_lt h0 h1] at this
  exact this
theorem subB_drop:∀(i:Nat) (l:List T_Subscription),(l.flatMap subB).drop (3 * i)=(l.drop i).flatMap subB
  | 0,l=>by simp
  | i+1,[]=>by simp
  | i+1,x::l=>by
    have h3:(subB x).length=3:=by simp [subB,leb_length]
    rw [List.flatMap_cons,show 3 * (i+1)=3+3 * i from by omega,← List.drop_drop,List.drop_left' h3,List.drop_succ_cons]
    exact subB_drop i l
theorem subs_enc {s:List Int} {l:List T_Subscription} (h:s.drop 45=l.flatMap subB) (hl:∀x∈l,(0≤x.Handle∧x.Handle<65536)∧0≤x.Bits∧x.Bits≤3):subsOf s l.length=l:=by
  refine List.ext_getElem (subsOf_len ..) fun i h1 h2=>?_
  have hx:=hl _ (List.getElem_mem h2)
  have hd:s.drop (45+3 * i)=leb 2 l[i].Handle++(leb 1 l[i].Bits++(l.drop (i+1)).flatMap subB):=by
    rw [← List.drop_drop,h,subB_drop,List.drop_eq_getElem_cons h2,List.flatMap_cons]
    simp [subB]
  generalize hy:l[i]=y at *
  obtain⟨hd2,ht2⟩:=nx hd (k:=2) (leb_length ..)
  obtain⟨_,ht1⟩:=nx hd2 (k:=1) (leb_length ..)
  have:(subsOf s l.length)[i]=subAt s i:=by simp [subsOf]
  rw [this]
  unfold subAt
  rw [ht2,ht1,num_id (by omega) (by omega),num_id (by omega) (by omega),wu16_id (by omega) (by omega),w64_id (by omega) (by omega)]
theorem dec_enc (F:Nat) (b:T_Bond) (hF:2000<F) (hv:VB b) (hr:RB b):bonds_Decode F (encB b)=some (b,0):=by
  have hlen:=encB_len b
  have hby:=encB_byte b
  have hform:(encB b).drop 0=leb 1 b.Peer.Address.Kind++(leb 6 b.Peer.Address.Bits++(leb 8 b.Peer.IRK++(leb 8 b.LTK++(leb 8 b.Mark++(leb 1 (flagsOf b)++(leb 8 b.Hash++(leb 4 b.Used++(leb 1 (b.Subs.length:Int)++b.Subs.flatMap subB)))))))):=by
    rw [List.drop_zero]
    simp only [encB,List.append_assoc]
  generalize encB b=s at *
  obtain⟨hadr,hkind,hused,hfew,hsubs⟩:=hv
  obtain⟨r1,r2,r3,r4,r5,r6⟩:=hr
  unfold U64 at r1 r2 r3 r4 r5
  have hbits:=(chkA_lt hadr).2.2
  have hfl:=flags_rng b
  obtain⟨d1,t0⟩:=nx hform (k:=1) (leb_length ..)
  obtain⟨d7,t1⟩:=nx d1 (k:=6) (leb_length ..)
  obtain⟨d15,t7⟩:=nx d7 (k:=8) (leb_length ..)
  obtain⟨d23,t15⟩:=nx d15 (k:=8) (leb_length ..)
  obtain⟨d31,t23⟩:=nx d23 (k:=8) (leb_length ..)
  obtain⟨d32,t31⟩:=nx d31 (k:=1) (leb_length ..)
  obtain⟨d40,t32⟩:=nx d32 (k:=8) (leb_length ..)
  obtain⟨d44,t40⟩:=nx d40 (k:=4) (leb_length ..)
  obtain⟨d45,t44⟩:=nx d44 (k:=1) (leb_length ..)
  simp only [Nat.reduceAdd,Nat.zero_add] at d1 d7 d15 d23 d31 d32 d40 d44 d45 t0 t1 t7 t15 t23 t31 t32 t40 t44
  have h0:s[0]? = some b.Peer.Address.Kind:=get_drop hform (by omega) (by omega)
  have h44:s[44]? = some (b.Subs.length:Int):=get_drop d44 (by omega) (by omega)
  have hsub:=subs_enc d45 (fun x hx=>⟨r6 x hx,(okSub_mem hsubs hx).2⟩)
  have hn:=len_nat s
  have n44:num ((s.drop 44).take 1)=(b.Subs.length:Int):=by rw [t44,num_id (by omega) (by omega)]
  obtain⟨c,hc⟩:∃c:Int,(b.Subs.length:Int)=c:=⟨_,rfl⟩
  have hc0:0≤c:=by omega
  have hc16:c≤16:=by omega
  have hlc:(s.length:Int)=45+3 * c:=by omega
  rw [hc] at n44 h44
  have e44:idx s 44=some c:=h44
  have hA:decA s b.Peer.Address.Kind=b.Peer.Address:=by
    unfold decA
    rw [t1,num_id (by omega) (by omega)]
  unfold bonds_Decode
  have ew:w64 (45+3 * c)=45+3 * c:=w64_id (by omega) (by omega)
  have ew3:w64 (3 * w64 c)=3 * c:=by rw [w64_id (x:=c) (by omega) (by omega),w64_id (x:=3 * c) (by omega) (by omega)]
  rw [if_neg (by rw [decide_eq_true_eq]; omega),e44]
  simp only [Option.bind_some,ew,ew3]
  rw [if_neg (by rw [decide_eq_true_eq]; omega)]
  have hsub7:=sub_nat s 7 s.length (by omega) (by omega)
  rw [List.take_length] at hsub7
  have ht:=take_ok F (s.drop 7) [8,8,8,1,8,4,1] (by simp) (by simp) (by simp; omega) (fun x hx=>hby x (List.mem_of_mem_drop hx)) (by rw [List.length_drop]; omega) (by simp [sumN]; omega)
  rw [show sizesI [8,8,8,1,8,4,1]=[8,8,8,1,8,4,1] from rfl] at ht
  have hs7:sub s 7 (len s)=some (s.drop 7):=hsub7
  have hvals:∀(a0 a1 a2 a3 a4 a5 a6:Int),idx [a0,a1,a2,a3,a4,a5,a6] 3=some a3:=fun _ _ _ _ _ _ _=>rfl
  have hd45:len (s.drop (7+(8+(8+(8+(1+(8+(4+(1+0)))))))))=s.length - 45:=by rw [len_nat,List.length_drop]; omega
  rw [decA_u F s _ hF hby (by omega) (by omega) h0,hs7,hA,if_pos hadr]
  have n31:num ((s.drop 31).take 1)=flagsOf b:=by rw [t31,num_id (by omega) (by omega)]
  simp only [Option.bind_some,ht,valsT,sumN,List.drop_drop,hvals,hd45,show 7+8+8+8=31 from rfl,n31]
  rw [if_neg (show ¬ decide ((s.length:Int) - 45 > 3 * c)=true by rw [decide_eq_true_eq]; omega)]
  simp only [Option.bind_some]
  rw [if_neg (show ¬ decide (flagsOf b > 3)=true by rw [decide_eq_true_eq]; omega),if_neg (by simp)]
  have i0:∀(a0 a1 a2 a3 a4 a5 a6:Int),idx [a0,a1,a2,a3,a4,a5,a6] 0=some a0:=fun _ _ _ _ _ _ _=>rfl
  have i1:∀(a0 a1 a2 a3 a4 a5 a6:Int),idx [a0,a1,a2,a3,a4,a5,a6] 1=some a1:=fun _ _ _ _ _ _ _=>rfl
  have i2:∀(a0 a1 a2 a3 a4 a5 a6:Int),idx [a0,a1,a2,a3,a4,a5,a6] 2=some a2:=fun _ _ _ _ _ _ _=>rfl
  have i4:∀(a0 a1 a2 a3 a4 a5 a6:Int),idx [a0,a1,a2,a3,a4,a5,a6] 4=some a4:=fun _ _ _ _ _ _ _=>rfl
  have i5:∀(a0 a1 a2 a3 a4 a5 a6:Int),idx [a0,a1,a2,a3,a4,a5,a6] 5=some a5:=fun _ _ _ _ _ _ _=>rfl
  have i6:∀(a0 a1 a2 a3 a4 a5 a6:Int),idx [a0,a1,a2,a3,a4,a5,a6] 6=some a6:=fun _ _ _ _ _ _ _=>rfl
  simp only [i0,i1,i2,i4,i5,Option.bind_some,Nat.reduceAdd]
  unfold bonds_Decode_j1
  simp only [i6,Option.bind_some,n44]
  rw [← hc,loop_u F s b.Subs.length hF (by omega) hby (by omega),Option.bind_some]
  unfold bonds_Decode_j2
  have hB:T_Bond.mk (T_Identity.mk b.Peer.Address (num (List.take 8 (List.drop 7 s)))) (num (List.take 8 (List.drop 15 s))) (num (List.take 8 (List.drop 23 s))) (remp (flagsOf b) 2 == 1) (num (List.take 8 (List.drop 32 s))) (decide (flagsOf b > 1)) (subsOf s b.Subs.length) (w64 (num (List.take 4 (List.drop 40 s))))=b:=by
    rw [t7,t15,t23,t32,t40,hsub,num_id (by omega) (by omega),num_id (by omega) (by omega),num_id (by omega) (by omega),num_id (by omega) (by omega),num_id (by omega) (by omega),w64_id (by omega) (by omega)]
    have q1:(remp (flagsOf b) 2 == 1)=b.Strong:=by
      unfold flagsOf
      cases b.Strong <;> cases b.Aware <;> rfl
    have q2:decide (flagsOf b > 1)=b.Aware:=by
      unfold flagsOf
      cases b.Strong <;> cases b.Aware <;> rfl
    rw [q1,q2]
  rw [hB,check_same F b r1]
  obtain⟨e,k1,k2⟩:=check_ok F b hF r1
  obtain rfl:=k2.2 ⟨hadr,hkind,hused,hfew,hsubs⟩
  rw [k1,Option.bind_some,if_neg (by decide)]
def Dis (l:List T_Bond):Prop:=∀(i k:Nat) (x y:T_Bond),k<i→l[i]? = some x→l[k]? = some y→sameA x y=false
theorem valid_in (F:Nat) (l:List T_Bond) (i:Nat) (hi:i<l.length) (hl:l.length≤140737488355328) (hF:140737488357000<F):∃o,iter (fun s=>wirelessref40_Valid_l2 F l i s) F 0=some o∧((o = .inl ()∧∀(k:Nat) (y:T_Bond),k<i→l[k]? = some y→sameA l[i] y=false)∨o = .inr false):=by
  refine iter_by (body:=fun s=>wirelessref40_Valid_l2 F l i s) (fun s=>∃k:Nat,s=k∧k≤i∧∀(q:Nat) (y:T_Bond),q<k→l[q]? = some y→sameA l[i] y=false) _ (fun s=>(i - s).toNat) (fun s hs=>?_) F 0 ⟨0,rfl,by omega,fun q y h=>by omega⟩ (by simp; omega)
  obtain⟨k,rfl,hk,hq⟩:=hs
  show (∃s',wirelessref40_Valid_l2 F l i _=_∧_)∨∃o,wirelessref40_Valid_l2 F l i _=_∧_
  unfold wirelessref40_Valid_l2 wirelessref40_Valid_j3
  by_cases hc:k<i
  · have hx:l[k]? = some l[k]:=List.getElem?_eq_getElem (by omega)
    rw [if_pos (by simp; omega),idx_nat,hx,Option.bind_some,idx_nat,List.getElem?_eq_getElem hi,Option.bind_some]
    rw [show ((l[k].Peer.Address.Kind == l[i].Peer.Address.Kind)&&(l[k].Peer.Address.Bits == l[i].Peer.Address.Bits))=sameA l[i] l[k] from rfl]
    by_cases hs:sameA l[i] l[k]=true
    · rw [if_pos hs]
      exact .inr ⟨_,rfl,.inr rfl⟩
    · rw [if_neg hs,w64_nat k (by omega)]
      refine .inl ⟨_,rfl,⟨k+1,rfl,by omega,fun q y h1 h2=>?_⟩,by omega⟩
      by_cases hqk:q<k
      · exact hq q y hqk h2
      · have:q=k:=by omega
        subst this
        rw [hx] at h2
        rw [← Option.some.inj h2]
        exact (Bool.not_eq_true _).mp hs
  · rw [if_neg (by simp; omega)]
    exact .inr ⟨_,rfl,.inl ⟨rfl,fun q y h1 h2=>hq q y (by omega) h2⟩⟩
theorem valid_all (F:Nat) (l:List T_Bond) (hr:∀b∈l,U64 b.Peer.Address.Bits) (hl:l.length≤140737488355328) (hF:140737488357000<F):∃v,wirelessref40_Valid F l=some v∧(v=true→l.length≤16∧(∀b∈l,VB b)∧Dis l):=by
  unfold wirelessref40_Valid wirelessref40_Valid_j1
  have hn:=len_nat l
  obtain⟨o,h1,h2⟩:=iter_by (body:=fun s=>wirelessref40_Valid_l1 F l s) (fun s=>∃i:Nat,s=i∧i≤l.length∧(∀q x,q<i→l[q]? = some x→VB x)∧∀(q k:Nat) (x y:T_Bond),q<i→k<q→l[q]? = some x→l[k]? = some y→sameA x y=false) (fun o=>o = .inr false∨(o = .inl ()∧(∀b∈l,VB b)∧Dis l)) (fun s=>(l.length - s).toNat) (fun s hs=>by
    obtain⟨i,rfl,hi,hall,hdis⟩:=hs
    show (∃s',wirelessref40_Valid_l1 F l _=_∧_)∨∃o,wirelessref40_Valid_l1 F l _=_∧_
    unfold wirelessref40_Valid_l1 wirelessref40_Valid_j2
    by_cases hc:i<l.length
    · have hx:l[i]? = some l[i]:=List.getElem?_eq_getElem hc
      obtain⟨e,k1,k2⟩:=check_ok F l[i] (by omega) (hr _ (List.getElem_mem hc))
      obtain⟨o,k3,k4⟩:=valid_in F l i hc hl hF
      rw [if_pos (by simp; omega),idx_nat,hx,Option.bind_some,k1,Option.bind_some]
      by_cases he:e=0
      · rw [if_neg (by simpa using he),k3,Option.bind_some]
        rcases k4 with ⟨rfl,k4⟩ | rfl
        · simp only
          rw [w64_nat i (by omega)]
          refine .inl ⟨_,rfl,⟨i+1,rfl,by omega,fun q x hq hx2=>?_,fun q k x y hq hkq hx2 hy=>?_⟩,by omega⟩
          · by_cases hqi:q<i
            · exact hall q x hqi hx2
            · have:q=i:=by omega
              subst this
              rw [hx] at hx2
              injection hx2 with hx2
              subst hx2
              exact k2.1 he
          · by_cases hqi:q<i
            · exact hdis q k x y hqi hkq hx2 hy
            · have:q=i:=by omega
              subst this
              rw [hx] at hx2
              injection hx2 with hx2
              subst hx2
              exact k4 k y hkq hy
        · exact .inr ⟨_,rfl,.inl rfl⟩
      · rw [if_pos (by simpa using he)]
        exact .inr ⟨_,rfl,.inl rfl⟩
    · rw [if_neg (by simp; omega)]
      refine .inr ⟨_,rfl,.inr ⟨rfl,fun b hb=>?_,fun q k x y hkq hx hy=>?_⟩⟩
      · obtain⟨q,hq⟩:=List.getElem?_of_mem hb
        exact hall q b (by have:=(List.getElem?_eq_some_iff.1 hq).1; omega) hq
      · exact hdis q k x y (by have:=(List.getElem?_eq_some_iff.1 hx).1; omega) hkq hx hy) F 0 ⟨0,rfl,by omega,fun q x hq=>by omega,fun q k x y hq=>by omega⟩ (by simp; omega)
  rw [h1,Option.bind_some]
  rcases h2 with rfl | ⟨rfl,h2⟩
  · exact⟨false,rfl,fun h=>by cases h⟩
  · exact⟨_,rfl,fun h=>⟨by rw [decide_eq_true_eq] at h; omega,h2⟩⟩
def fv (l:List T_Item) (j:Int):List Int:=match l.find? (fun x=>x.Key == j) with
  | none=>[]
  | some x=>x.Value
theorem find_ne {j:Int} {l:List T_Item} (h:∀x∈l,x.Key≠j):l.find? (fun x=>x.Key == j)=none:=List.find?_eq_none.2 fun x hx=>by simpa using h x hx
theorem setL_fv {a b:List T_Item} {r:T_Item} (ho:(a++b).Pairwise fun x y=>x.Key<y.Key) (ha:∀x∈a,x.Key<r.Key) (hb:∀x∈b,r.Key≤x.Key) (j:Int):fv (setL a b r) j=if j=r.Key then r.Value else fv (a++b) j:=by
  have hh:=high (List.pairwise_append.1 ho).2.1 hb
  unfold fv setL
  rw [List.find?_append,List.find?_append,List.find?_append]
  by_cases hj:j=r.Key
  · subst hj
    rw [if_pos rfl,find_ne (l:=a) (fun x hx=>by have:=ha x hx; omega),find_ne (l:=if hd r.Key b=true then b.tail else b) (fun x hx=>by have:=(hh x hx).1; omega),Option.none_or,Option.or_none]
    by_cases hv:r.Value=[]
    · rw [if_pos hv,hv]
      rfl
    · rw [if_neg hv,List.find?_cons,show (r.Key == r.Key)=true by simp]
  · rw [if_neg hj]
    have hm:(if r.Value=[] then [] else [r]).find? (fun x=>x.Key == j)=none:=find_ne fun x hx=>by
      split at hx
      · cases hx
      · rw [List.mem_singleton] at hx
        subst hx
        exact fun e=>hj e.symm
    have ht:(if hd r.Key b=true then b.tail else b).find? (fun x=>x.Key == j)=b.find? (fun x=>x.Key == j):=by
      split
      · cases b with
        | nil=>rfl
        | cons x t=>
          rename_i hd0
          have hk:x.Key=r.Key:=by simpa [hd] using hd0
          rw [List.tail_cons,List.find?_cons,show (x.Key == j)=false by simp; omega]
      · rfl
    rw [hm,ht,Option.or_none]
theorem set_fv {F:Nat} {l m:List T_Item} {r:T_Item} (h:Lst l) (hl:l.length≤100000) (hs:flash_set F l r=some m) (hF:200000<F) (j:Int):fv m j=if j=r.Key then r.Value else fv l j:=by
  obtain⟨a,b,rfl,ha,hb⟩:=split_at r.Key l h.ord
  rw [set_eq F a b r ha hb hl hF] at hs
  rw [← Option.some.inj hs]
  exact setL_fv h.ord ha hb j
def decO (F:Nat) (v:List Int):Option T_Bond:=(bonds_Decode F v).bind fun r=>if r.2=0 then some r.1 else none
def ad (l:List T_Bond):Option T_Bond→List T_Bond
  | none=>l
  | some b=>if l.any (sameA b)=true then l else l++[b]
def ld (F:Nat) (vs:Nat→List Int):Nat→List T_Bond
  | 0=>[]
  | i+1=>ad (ld F vs i) (decO F (vs i))
theorem ad_len (l:List T_Bond) (o:Option T_Bond):(ad l o).length≤l.length+1:=by
  cases o with
  | none=>exact Nat.le_succ _
  | some b=>
    show (if l.any (sameA b)=true then l else l++[b]).length≤_
    split
    · omega
    · rw [List.length_append,List.length_singleton]
      omega
theorem ld_len (F:Nat) (vs:Nat→List Int):∀i,(ld F vs i).length≤i
  | 0=>by simp [ld]
  | i+1=>by
    have:=ld_len F vs i
    have:=ad_len (ld F vs i) (decO F (vs i))
    rw [ld]
    omega
theorem decO_nil (F:Nat):decO F []=none:=by
  have h:bonds_Decode F []=some (T_Bond.mk (T_Identity.mk (T_Address.mk 0 0) 0) 0 0 false 0 false [] 0,3):=by
    unfold bonds_Decode
    rw [if_pos (by decide)]
    rfl
  unfold decO
  rw [h,Option.bind_some,if_neg (by decide)]
theorem load_ld (F:Nat) (s:T_Store) (hit:Lst s.Items) (hil:s.Items.length≤100000) (hF:200000<F):bonds_Load F s=some (ld F (fun i=>fv s.Items i) 16):=by
  have key:=iter_count (body:=fun z:List T_Bond×Int=>bonds_Load_l1 F s z.1 z.2) (fun i=>(ld F (fun i=>fv s.Items i) i,(i:Int))) 16 (ld F (fun i=>fv s.Items i) 16) (fun i hi=>by
    show bonds_Load_l1 F s (ld F (fun i=>fv s.Items i) i) (i:Int)=_
    have hlen:=ld_len F (fun i=>fv s.Items i) i
    have hw2:wu16 ((i:Int)+1)=((i+1:Nat):Int):=by rw [wu16_id (by omega) (by omega)]; omega
    have skip:∀l':List T_Bond,bonds_Load_j2 F (i:Int) l'=some (.next (l',((i+1:Nat):Int))):=fun l'=>by
      unfold bonds_Load_j2
      rw [hw2]
    unfold bonds_Load_l1
    rw [if_pos (dt (by omega)),get_eq F s i hit hil hF,Option.bind_some]
    rw [ld]
    generalize ld F (fun i=>fv s.Items i) i=l at *
    unfold fv
    cases hg:s.Items.find? fun x=>x.Key == (i:Int) with
    | none=>
      unfold got
      simp only
      rw [if_pos (by decide),skip,decO_nil]
      rfl
    | some it=>
      have hok:=hit.ok it (List.mem_of_find?_eq_some hg)
      have hvl:=hok.vl
      obtain⟨⟨r,e⟩,d1,d2,d3⟩:=dec_both F it.Value (by omega) hok.vb (by omega)
      unfold got decO
      simp only
      rw [if_neg (by decide),d1,Option.bind_some,Option.bind_some]
      simp only
      obtain⟨z,z1,z2⟩:=index_any F l r (by omega) hF
      by_cases h0:e=0
      · subst h0
        rw [if_neg (by decide),z1,Option.bind_some,if_pos rfl]
        unfold ad
        simp only
        cases hk:l.any (sameA r)
        · rw [if_pos (dt (z2.2 hk)),app_small (by simp; omega) (by decide),Option.bind_some,skip,if_neg (by decide)]
        · have hz:¬ z<0:=fun h=>by rw [z2.1 h] at hk; cases hk
          rw [if_neg (df hz),skip,if_pos rfl]
      · rw [if_pos (by simp [h0]),skip,if_neg h0]
        rfl) (by
    show bonds_Load_l1 F s _ ((16:Nat):Int)=_
    unfold bonds_Load_l1
    rw [if_neg (df (by omega))]) F 0 (by omega) (by omega)
  unfold bonds_Load
  have e0:((ld F (fun i=>fv s.Items i) 0,((0:Nat):Int)):List T_Bond×Int)=([],0):=rfl
  rw [e0] at key
  rw [key]
  rfl
inductive Ch (F N:Nat) (vs:Nat→List Int) (f0:T_Flash) (s0:T_Store):Nat→List T_Write→T_Flash→T_Store→Prop where
  | zero:Ch F N vs f0 s0 0 [] f0 s0
  | succ {i:Nat} {ws w:List T_Write} {f g:T_Flash} {s t:T_Store} {m:List T_Item} (c:Ch F N vs f0 s0 i ws f s) (hm:Mmy f N) (h:Mnt F f s) (hp:PlanOk s i (vs i) m w 0) (hs:flash_set F s.Items ⟨i,vs i⟩=some m) (hml:Lst m) (hmn:m.length≤s.Items.length+1) (ha:Apl F f w g) (hg:Mmy g N) (ht:Mnt F g t) (hi:t.Items=m):Ch F N vs f0 s0 (i+1) (ws++w) g t
theorem Ch.apl {F N:Nat} {vs:Nat→List Int} {f0 f:T_Flash} {s0 s:T_Store} {i:Nat} {ws:List T_Write} (c:Ch F N vs f0 s0 i ws f s):Apl F f0 ws f:=by
  induction c with
  | zero=>exact .nil _
  | succ c hm h hp hs hml hmn ha hg ht hi ih=>exact ih.app ha
theorem Ch.fv {F N:Nat} {vs:Nat→List Int} {f0 f:T_Flash} {s0 s:T_Store} {i:Nat} {ws:List T_Write} (c:Ch F N vs f0 s0 i ws f s) (hF:200000<F) (j:Nat):fv s.Items j=if j<i then vs j else fv s0.Items j:=by
  induction c with
  | zero=>rw [if_neg (by omega)]
  | @succ i ws w f g s t m c hm h hp hs hml hmn ha hg ht hi ih=>
    have hmt:=mnt_mtd hm h
    have hil:=hmt.il
    have hN:=hm.n1
    have hl1:=hm.l1
    rw [hi,set_fv hmt.it (by omega) hs hF,ih]
    by_cases hj:j=i
    · subst hj
      rw [if_pos rfl,if_pos (by omega)]
    · rw [if_neg (show ¬ ((j:Int)=(i:Int)) by omega)]
      by_cases hji:j<i
      · rw [if_pos hji,if_pos (by omega)]
      · rw [if_neg hji,if_neg (by omega)]
theorem keys_walk {F N:Nat} {f:T_Flash} {s:T_Store} (mp:List (Int×List Int)) (q:Int) (vs:Nat→List Int) (hv:∀k:Nat,k<16→mval [] mp k=vs k) (hb:∀k:Nat,k<16→∀x∈vs k,Byte x) (hvl:∀k:Nat,k<16→(vs k).length≤1024) (hm:Mmy f N) (h:Mnt F f s) (hF:200000<F) (hFF:F≤FF) :
    ∃o,iter (fun z:T_Store×List T_Write×Int=>bonds_Plan_l1 F (mp,q) z.1 z.2.1 z.2.2) F (s,[],0)=some o∧((∃ws g t,o = .inl ws∧Ch F N vs f s 16 ws g t∧Mmy g N∧Mnt F g t∧ws.length≤48)∨o = .inr ([],8)):=by
  refine iter_by (body:=fun z:T_Store×List T_Write×Int=>bonds_Plan_l1 F (mp,q) z.1 z.2.1 z.2.2) (fun z=>∃(i:Nat) (g:T_Flash),z.2.2=(i:Int)∧i≤16∧Ch F N vs f s i z.2.1 g z.1∧Mmy g N∧Mnt F g z.1∧z.2.1.length≤3 * i) _ (fun z=>16 - z.2.2.toNat) (fun z hz=>?_) F (s,[],0) ⟨0,f,rfl,by omega,.zero,hm,h,by simp⟩ (by simp; omega)
  obtain⟨t,ws,j⟩:=z
  obtain⟨i,g,hi,hi16,hc,hg,ht,hlen⟩:=hz
  simp only at hi hc ht hlen
  subst hi
  show (∃s',bonds_Plan_l1 F (mp,q) t ws (i:Int)=_∧_)∨∃o,bonds_Plan_l1 F (mp,q) t ws (i:Int)=_∧_
  unfold bonds_Plan_l1
  by_cases hin:i<16
  · obtain⟨m,w,t',e,p1,p2,p3⟩:=put_all hg ht (k:=(i:Int)) (by omega) (by omega) (hb i hin) hF hFF
    rw [if_pos (dt (by omega)),hv i hin,p1,Option.bind_some]
    simp only
    rcases p3 with ⟨rfl,g',a1,a2,a3,a4,a5,a6,a7,a8⟩ | ⟨h1,h2,rfl⟩
    · have hwl:w.length≤3:=by cases a8 <;> simp
      rw [if_neg (by decide),p2,Option.bind_some]
      simp only
      rw [if_neg (by decide),app_small (by omega) (by decide),Option.bind_some,wu16_id (by omega) (by omega)]
      exact .inl ⟨_,rfl,⟨i+1,g',by simp,by omega,.succ hc hg ht a8 a1 a2 a3 a7 a4 a5 a6,a4,a5,by simp only [List.length_append]; omega⟩,by simp only; omega⟩
    · have he:e=8:=by
        rcases h1 with h1 | h1
        · have:=h2 h1
          have:=hvl i hin
          omega
        · exact h1
      subst he
      rw [if_pos (by decide)]
      exact .inr ⟨_,rfl,.inr rfl⟩
  · rw [if_neg (df (by omega))]
    have:i=16:=by omega
    subst this
    exact .inr ⟨_,rfl,.inl ⟨ws,g,t,rfl,hc,hg,ht,by omega⟩⟩
def vsOf (l:List T_Bond) (k:Nat):List Int:=match l[k]? with
  | some b=>encB b
  | none=>[]
theorem vsOf_byte (l:List T_Bond) (k:Nat):∀x∈vsOf l k,Byte x:=by
  unfold vsOf
  split
  · exact encB_byte _
  · intro x h
    cases h
theorem vsOf_len {l:List T_Bond} (hv:∀b∈l,VB b) (k:Nat):(vsOf l k).length≤1024:=by
  unfold vsOf
  split
  · rename_i b h
    have:=(hv b (List.mem_of_getElem? h)).few
    rw [encB_len]
    omega
  · simp
theorem recs_ok (F:Nat) (l:List T_Bond) (hl:l.length≤16) (hv:∀b∈l,VB b) (hr:∀b∈l,RB b) (hF:200000<F):∃m,bonds_records F l=some (m,0)∧∀k:Nat,k<16→mval [] m k=vsOf l k:=by
  obtain⟨o,h1,h2⟩:=iter_by (body:=fun s:List (Int×List Int)×Int=>bonds_records_l1 F l s.1 s.2) (fun s=>∃i:Nat,s.2=(i:Int)∧i≤l.length∧∀k:Nat,k<16→mval [] s.1 k=if k<i then vsOf l k else []) (fun o=>∃m,o = .inl m∧∀k:Nat,k<16→mval [] m k=vsOf l k) (fun s=>l.length - s.2.toNat) (by
    rintro⟨m,j⟩ ⟨i,hi,hil,hm⟩
    simp only at hi hm
    subst hi
    show (∃s',bonds_records_l1 F l m (i:Int)=_∧_)∨∃o,bonds_records_l1 F l m (i:Int)=_∧_
    unfold bonds_records_l1
    by_cases hin:i<l.length
    · have hx:l[i]? = some l[i]:=List.getElem?_eq_getElem hin
      have hmem:=List.getElem_mem hin
      have hvs:vsOf l i=encB l[i]:=by unfold vsOf; rw [hx]
      rw [if_pos (dt (by rw [len_nat]; omega)),idx_nat,hx,Option.bind_some,enc_u F _ (by omega) (hv _ hmem) (hr _ hmem),Option.bind_some]
      simp only
      rw [if_neg (by decide),wu16_id (by omega) (by omega),w64_nat i (by omega)]
      refine .inl ⟨_,rfl,⟨i+1,rfl,by omega,fun k hk=>?_⟩,by simp only; omega⟩
      simp only
      rw [mval_mput,hm k hk]
      by_cases hki:k=i
      · subst hki
        rw [if_pos rfl,if_pos (by omega),hvs]
      · rw [if_neg (show ¬ ((k:Int)=(i:Int)) by omega)]
        by_cases h:k<i
        · rw [if_pos h,if_pos (by omega)]
        · rw [if_neg h,if_neg (by omega)]
    · rw [if_neg (df (by rw [len_nat]; omega))]
      refine .inr ⟨_,rfl,m,rfl,fun k hk=>?_⟩
      rw [hm k hk]
      by_cases h:k<i
      · rw [if_pos h]
      · rw [if_neg h]
        unfold vsOf
        rw [List.getElem?_eq_none (by omega)]) F ([],0) ⟨0,rfl,by omega,fun k hk=>by rw [if_neg (by omega)]; rfl⟩ (by simp only; omega)
  obtain⟨m,rfl,h2⟩:=h2
  unfold bonds_records
  rw [h1,Option.bind_some]
  exact⟨m,rfl,h2⟩
theorem plan_valid {F N:Nat} {f:T_Flash} {s:T_Store} (l:List T_Bond) (hl:l.length≤16) (hv:∀b∈l,VB b) (hr:∀b∈l,RB b) (hm:Mmy f N) (h:Mnt F f s) (hF:200000<F) (hFF:F≤FF) :
    ∃ws e,bonds_Plan F s l=some (ws,e)∧((e=0∧∃g t,Ch F N (vsOf l) f s 16 ws g t∧Mmy g N∧Mnt F g t∧ws.length≤48)∨(e=8∧ws=[])):=by
  obtain⟨m,r1,r2⟩:=recs_ok F l hl hv hr hF
  unfold bonds_Plan
  rw [len_nat,if_neg (df (by omega)),r1,Option.bind_some]
  simp only
  rw [if_neg (by decide)]
  obtain⟨o,k1,k2⟩:=keys_walk m 0 (vsOf l) r2 (fun k _=>vsOf_byte l k) (fun k _=>vsOf_len hv k) hm h hF hFF
  rw [k1,Option.bind_some]
  rcases k2 with ⟨ws,g,t,rfl,k2,k3,k4,k5⟩ | rfl
  · exact⟨ws,0,rfl,.inl ⟨rfl,g,t,k2,k3,k4,k5⟩⟩
  · exact⟨[],8,rfl,.inr ⟨rfl,rfl⟩⟩
theorem ld_congr {F:Nat} {vs ws:Nat→List Int}:∀(n:Nat),(∀i,i<n→vs i=ws i)→ld F vs n=ld F ws n
  | 0,_=>rfl
  | n+1,h=>by rw [ld,ld,ld_congr n fun i hi=>h i (by omega),h n (by omega)]
theorem decO_enc (F:Nat) (b:T_Bond) (hF:2000<F) (hv:VB b) (hr:RB b):decO F (encB b)=some b:=by
  unfold decO
  rw [dec_enc F b hF hv hr,Option.bind_some,if_pos rfl]
theorem ld_valid (F:Nat) (l:List T_Bond) (hv:∀b∈l,VB b) (hr:∀b∈l,RB b) (hd:Dis l) (hF:2000<F):∀i,ld F (vsOf l) i=l.take i
  | 0=>by simp [ld]
  | i+1=>by
    rw [ld,ld_valid F l hv hr hd hF i]
    by_cases hin:i<l.length
    · have hx:l[i]? = some l[i]:=List.getElem?_eq_getElem hin
      have hmem:=List.getElem_mem hin
      have hvs:vsOf l i=encB l[i]:=by unfold vsOf; rw [hx]
      rw [hvs,decO_enc F _ hF (hv _ hmem) (hr _ hmem)]
      unfold ad
      have hno:(l.take i).any (sameA l[i])=false:=by
        rw [List.any_eq_false]
        intro y hy
        obtain⟨k,hk⟩:=List.getElem?_of_mem hy
        rw [List.getElem?_take] at hk
        split at hk
        · rename_i hki
          rw [hd i k _ y hki hx hk]
          decide
        · cases hk
      simp only
      rw [hno,if_neg (by decide),List.take_add_one,hx,Option.toList_some]
    · have hvs:vsOf l i=[]:=by
        unfold vsOf
        rw [List.getElem?_eq_none (by omega)]
      rw [hvs,decO_nil]
      unfold ad
      rw [List.take_of_length_le (by omega),List.take_of_length_le (by omega)]
theorem apl_loop {F:Nat}:∀(ws pre:List T_Write) (f g:T_Flash) (n:Nat),Apl F f ws g→ws.length<n→(pre++ws).length≤1000→iter (fun s:T_Flash×Int=>wirelesslaw40_BondsBack_l1 F (pre++ws) s.1 s.2) n (f,(pre.length:Int))=some g
  | [],pre,f,g,n+1,h,_,_=>by
    cases h
    refine iter_stop ?_
    show wirelesslaw40_BondsBack_l1 F (pre++[]) f (pre.length:Int)=_
    unfold wirelesslaw40_BondsBack_l1
    rw [if_neg (df (by rw [len_nat,List.append_nil]; omega))]
  | w::ws,pre,f,g,n+1,h,hn,hl=>by
    cases h with
    | @cons _ c _ _ _ a t=>
      rw [List.length_append,List.length_cons] at hl
      rw [List.length_cons] at hn
      have hx:(pre++w::ws)[pre.length]? = some w:=by
        rw [List.getElem?_append_right (Nat.le_refl _),Nat.sub_self]
        rfl
      have hs:wirelesslaw40_BondsBack_l1 F (pre++w::ws) f (pre.length:Int)=some (.next (c,((pre.length+1:Nat):Int))):=by
        unfold wirelesslaw40_BondsBack_l1
        rw [if_pos (dt (by rw [len_nat,List.length_append,List.length_cons]; omega)),idx_nat,hx,Option.bind_some,a,Option.bind_some,w64_nat _ (by omega)]
      have ih:=apl_loop ws (pre++[w]) c g n t (by omega) (by simp; omega)
      rw [List.append_assoc,List.singleton_append,List.length_append,List.length_singleton] at ih
      rw [iter_step (s':=(c,((pre.length+1:Nat):Int))) hs]
      exact ih
theorem back_law (F:Nat) (hL:wirelesslaw40_lives F=some true) (size:Int) (l:List T_Bond) (hr:∀b∈l,RB b) (hl:l.length≤140737488355328) (hF:140737488357000<F) (hFF:F≤FF):wirelesslaw40_BondsBack F size l=some true:=by
  unfold wirelesslaw40_BondsBack
  rw [hL,Option.bind_some,if_neg (by decide)]
  by_cases hs:64≤size∧size≤4096
  · obtain⟨s1,s2⟩:=hs
    obtain⟨N,rfl⟩:=Int.eq_ofNat_of_zero_le (a:=size) (by omega)
    obtain⟨v,v1,v2⟩:=valid_all F l (fun b hb=>(hr b hb).bits) hl hF
    rw [if_neg (by simp; omega),v1,Option.bind_some,Option.bind_some]
    cases v
    · rfl
    · obtain⟨l16,hv,hd⟩:=v2 rfl
      rw [if_neg (by decide)]
      have hcopy:=copy_ok F l (by omega) (by omega) (fun b hb=>by have:=(hv b hb).few; omega)
      have h2:=iter_count (body:=fun s:Int=>wirelesslaw40_BondsBack_l2 F l s) (fun i=>(i:Int)) l.length (.inl ()) (fun i hi=>by
        have hx:l[i]? = some l[i]:=List.getElem?_eq_getElem hi
        have hmem:=List.getElem_mem hi
        have hfew:=(hv _ hmem).few
        show wirelesslaw40_BondsBack_l2 F l (i:Int)=_
        unfold wirelesslaw40_BondsBack_l2 wirelesslaw40_BondsBack_j4
        rw [if_pos (dt (by rw [len_nat]; omega)),hcopy,Option.bind_some,idx_nat,hx,Option.bind_some,enc_u F _ (by omega) (hv _ hmem) (hr _ hmem),Option.bind_some]
        simp only
        rw [dec_enc F _ (by omega) (hv _ hmem) (hr _ hmem),Option.bind_some]
        simp only
        rw [if_neg (by decide),Option.bind_some,same_bond F _ (by omega) (by omega),Option.bind_some,if_neg (by decide),w64_nat i (by omega)]) (by
        show wirelesslaw40_BondsBack_l2 F l _=_
        unfold wirelesslaw40_BondsBack_l2
        rw [if_neg (df (by rw [len_nat]; omega))]) F 0 (by omega) (by omega)
      rw [show ((0:Nat):Int)=0 from rfl] at h2
      rw [h2,Option.bind_some]
      simp only
      unfold wirelesslaw40_BondsBack_j1
      rw [blank_mem F N (by omega) (by omega) (by omega),Option.bind_some]
      have hm:Mmy ⟨(List.replicate N 255,List.replicate N 255)⟩ N:=⟨by simp,by simp,by omega,by omega,rep_byte _,rep_byte _⟩
      have hn:∀n,¬ Head (List.replicate N 255) n:=fun n=>by
        have:=nohead_rep (k:=N) (by omega) [] n
        rwa [List.append_nil] at this
      have hmn:Mnt F ⟨(List.replicate N 255,List.replicate N 255)⟩ _:=.none hn hn
      rw [mount_of hm hmn (by omega) hFF,Option.bind_some,hcopy,Option.bind_some]
      obtain⟨ws,e,p1,p2⟩:=plan_valid l l16 hv hr hm hmn (by omega) hFF
      simp only
      rw [p1,Option.bind_some]
      unfold wirelesslaw40_BondsBack_j2 wirelesslaw40_BondsBack_j3
      rcases p2 with ⟨rfl,g,t,c1,c2,c3,c4⟩ | ⟨rfl,rfl⟩
      · have ha:=apl_loop ws [] _ g F c1.apl (by omega) (by simp; omega)
        have hfv:=c1.fv (by omega)
        have hmt:=mnt_mtd c2 c3
        have hil:=hmt.il
        have hN:=c2.n1
        have hl1:=c2.l1
        rw [List.nil_append,show (([]:List T_Write).length:Int)=0 from rfl] at ha
        simp only
        rw [if_neg (by decide),ha,Option.bind_some,mount_of c2 c3 (by omega) hFF,Option.bind_some]
        simp only
        rw [load_ld F t hmt.it (by omega) (by omega),Option.bind_some,ld_congr (ws:=vsOf l) 16 (fun i hi=>by rw [hfv i,if_pos hi]),ld_valid F l hv hr hd (by omega) 16,List.take_of_length_le (by omega),sameB_refl F l (by omega) (fun b hb=>by have:=(hv b hb).few; omega) (by omega)]
        rfl
      · rfl
  · rw [if_pos (by simp; omega)]
    rfl
theorem lives_ok:wirelesslaw40_lives FF=some true:=by kernel_rfl
theorem gu64 {x:Int} (h:GInt .u64 x):U64 x:=by
  have h1:IntKind.u64.min=0:=rfl
  have h2:IntKind.u64.max=18446744073709551615:=rfl
  unfold GInt at h
  rw [h1,h2] at h
  unfold U64
  omega
theorem gu16 {x:Int} (h:GInt .u16 x):0≤x∧x<65536:=by
  have h1:IntKind.u16.min=0:=rfl
  have h2:IntKind.u16.max=65535:=rfl
  unfold GInt at h
  rw [h1,h2] at h
  omega
theorem gbyte {x:Int} (h:GInt .u8 x):Byte x:=by
  have h1:IntKind.u8.min=0:=rfl
  have h2:IntKind.u8.max=255:=rfl
  unfold GInt at h
  rw [h1,h2] at h
  unfold Byte
  omega
theorem gbond {b:T_Bond} (h:G_T_Bond b):RB b:=by
  obtain⟨⟨⟨_,h1⟩,h2⟩,h3,h4,_,h5,_,h6,_⟩:=h
  exact⟨gu64 h1,gu64 h2,gu64 h3,gu64 h4,gu64 h5,fun s hs=>gu16 (h6.2 s hs).1⟩
theorem back_g (size:Int) (l:List T_Bond) (hl:GAll G_T_Bond l):wirelesslaw40_BondsBack FF size l=some true:=
  back_law FF lives_ok size l (fun b hb=>gbond (hl.2 b hb)) (by have:=hl.1; simp only [reachBytes] at this; omega) (by decide) (Nat.le_refl _)
end V
end Go.Proofs.YtbdhonofhlpdoaaDoor
