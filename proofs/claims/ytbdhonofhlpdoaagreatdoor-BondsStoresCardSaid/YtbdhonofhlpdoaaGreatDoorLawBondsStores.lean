/- BondsStores. -/
import Derived.Test.YtbdhonofhlpdoaaGreatDoorLawK
import Derived.Test.YtbdhonofhlpdoaaGreatDoorOpen
namespace Go.Proofs.YtbdhonofhlpdoaaGreatDoor
namespace V
theorem flat_byte:∀(l:List T_Subscription),∀x∈l.flatMap subB,Byte x
  | [],x,h=>by cases h
  | s::l,x,h=>by
    rw [List.flatMap_cons] at h
    rcases List.mem_append.1 h with h | h
    · rcases List.mem_append.1 h with h | h
      · exact leb_byte _ _ x h
      · exact leb_byte _ _ x h
    · exact flat_byte l x h
theorem encB_byte (b:T_Bond):∀x∈encB b,Byte x:=
  byte_app (byte_app (leb_byte _ _) (leb_byte _ _)) (byte_app (byte_app (byte_app (byte_app (byte_app (byte_app (byte_app (leb_byte _ _) (leb_byte _ _)) (leb_byte _ _)) (leb_byte _ _)) (leb_byte _ _)) (leb_byte _ _)) (leb_byte _ _)) (flat_byte _))
theorem encB_len (b:T_Bond):(encB b).length=45+3 * b.Subs.length:=by
  unfold encB
  simp only [List.length_append,leb_length,subB_len]
  omega
theorem enc_cases (F:Nat) (b:T_Bond) (hF:2000<F) (hr:RB b):(VB b∧bonds_Encode F b=some (encB b,0)∧wirelessref40_Encode F b=some (encB b,0))∨∃e,e≠0∧bonds_Encode F b=some ([],e)∧wirelessref40_Encode F b=some ([],e):=by
  obtain⟨e,k1,k2⟩:=check_ok F b hF hr.bits
  by_cases h:e=0
  · subst h
    have hv:=k2.1 rfl
    exact .inl ⟨hv,enc_u F b hF hv hr,enc_r F b hF hv hr⟩
  · refine .inr ⟨e,h,?_,?_⟩
    · unfold bonds_Encode
      rw [check_same F b hr.bits,k1,Option.bind_some,if_pos (by simpa using h)]
    · unfold wirelessref40_Encode
      rw [k1,Option.bind_some,if_pos (by simpa using h)]
theorem mget_mput {α:Type} (j k:Int) (x:α):∀m:List (Int×α),mget (mput m k x) j=if j=k then some x else mget m j
  | []=>by
    unfold mput mget
    by_cases h:j=k
    · rw [if_pos (by simpa using h),if_pos h]
    · rw [if_neg (by simpa using h),if_neg h]
      rfl
  | (i,y)::m=>by
    have ih:=mget_mput j k x m
    unfold mput
    by_cases hk:(k == i)=true
    · rw [if_pos hk]
      have hki:k=i:=by simpa using hk
      subst hki
      unfold mget
      by_cases h:j=k
      · rw [if_pos (by simpa using h),if_pos h]
      · rw [if_neg (by simpa using h),if_neg h,if_neg (by simpa using h)]
    · rw [if_neg hk]
      unfold mget
      by_cases hj:(j == i)=true
      · have hji:j=i:=by simpa using hj
        subst hji
        rw [if_pos (by simp),if_neg (fun e=>hk (by simp [e])),if_pos (by simp)]
      · rw [if_neg hj,if_neg hj,ih]
theorem mval_mput {α:Type} (z:α) (m:List (Int×α)) (j k:Int) (x:α):mval z (mput m k x) j=if j=k then x else mval z m j:=by
  unfold mval
  rw [mget_mput]
  split <;> rfl
theorem upd_gen {α:Type} {l:List α} {i:Nat} {x:α} (h:i<l.length):upd l (i:Int) x=some (l.set i x):=by
  unfold upd
  rw [if_pos (by omega)]
  rfl
structure Vals (m:List (Int×List Int)) (a:List (List Int)):Prop where
  l:a.length=16
  e:∀k:Nat,k<16→a[k]? = some (mval [] m k)
  b:∀k:Nat,k<16→(∀x∈mval [] m k,Byte x)
theorem vals_nil:Vals [] (List.replicate 16 []):=⟨by simp,fun k hk=>by
  rw [List.getElem?_replicate,if_pos hk]
  rfl,fun k hk x hx=>by cases hx⟩
theorem Vals.put {m:List (Int×List Int)} {a:List (List Int)} (h:Vals m a) {i:Nat} (hi:i<16) {v:List Int} (hv:∀x∈v,Byte x):Vals (mput m i v) (a.set i v):=by
  have hl:=h.l
  refine ⟨by simp [hl],fun k hk=>?_,fun k hk=>?_⟩
  · rw [mval_mput]
    by_cases hki:k=i
    · subst hki
      rw [if_pos rfl,List.getElem?_set_self (by omega)]
    · rw [if_neg (by omega),List.getElem?_set_ne (fun e=>hki e.symm),h.e k hk]
  · rw [mval_mput]
    split
    · exact hv
    · exact h.b k hk
theorem recs_both (F:Nat) (l:List T_Bond) (hl:l.length≤16) (hr:∀b∈l,RB b) (hF:200000<F) :
    ∃o p,iter (fun s:List (Int×List Int)×Int=>bonds_records_l1 F l s.1 s.2) F ([],0)=some o∧iter (fun s:List (List Int)×Int=>wirelessref40_Plan_l2 F l s.1 s.2) F (List.replicate 16 [],0)=some p∧
      ((∃m a,o = .inl m∧p = .inl a∧Vals m a)∨∃e,e≠0∧o = .inr ([],e)∧p = .inr ([],e)):=by
  refine iter_sim (b1:=fun s:List (Int×List Int)×Int=>bonds_records_l1 F l s.1 s.2) (b2:=fun s:List (List Int)×Int=>wirelessref40_Plan_l2 F l s.1 s.2)
    (fun s t=>Vals s.1 t.1∧∃i:Nat,s.2=(i:Int)∧t.2=(i:Int)∧i≤l.length) _ (fun s=>l.length - s.2.toNat) (fun s t h=>?_) F ([],0) (List.replicate 16 [],0) ⟨vals_nil,0,rfl,rfl,by omega⟩ (by simp only; omega)
  obtain⟨m,_⟩:=s
  obtain⟨a,_⟩:=t
  obtain⟨hv,i,rfl,rfl,hi⟩:=h
  simp only at hv
  show (∃t1 t2,bonds_records_l1 F l m (i:Int)=some (.next t1)∧wirelessref40_Plan_l2 F l a (i:Int)=some (.next t2)∧_)∨∃o1 o2,bonds_records_l1 F l m (i:Int)=some (.done o1)∧wirelessref40_Plan_l2 F l a (i:Int)=some (.done o2)∧_
  unfold bonds_records_l1 wirelessref40_Plan_l2
  by_cases hin:i<l.length
  · have hx:l[i]? = some l[i]:=List.getElem?_eq_getElem hin
    have hb:=hr _ (List.getElem_mem hin)
    generalize l[i]=b at *
    have hc:decide ((i:Int)<len l)=true:=dt (by rw [len_nat]; omega)
    rw [if_pos hc,if_pos hc,idx_nat,hx,Option.bind_some,Option.bind_some]
    rcases enc_cases F b (by omega) hb with ⟨hvb,e1,e2⟩ | ⟨e,h0,e1,e2⟩
    · have hal:=hv.l
      have h16:i<16:=by omega
      have hin2:idxn 16 a (i:Int)=some a[i]:=by
        unfold idxn
        rw [if_pos (by omega),idx_nat,List.getElem?_eq_getElem (by omega)]
      rw [e1,e2,Option.bind_some,Option.bind_some,if_neg (show ¬ ((0:Int) != 0)=true by decide),if_neg (show ¬ ((0:Int) != 0)=true by decide),hin2,Option.bind_some,upd_gen (by omega),Option.bind_some,w64_nat i (by omega),wu16_id (by omega) (by omega)]
      refine .inl ⟨_,_,rfl,rfl,⟨hv.put h16 (encB_byte b),i+1,rfl,rfl,by omega⟩,by simp only; omega⟩
    · rw [e1,e2,Option.bind_some,Option.bind_some,if_pos (by simp [h0]),if_pos (by simp [h0])]
      exact .inr ⟨_,_,rfl,rfl,.inr ⟨e,h0,rfl,rfl⟩⟩
  · have hc:¬ decide ((i:Int)<len l)=true:=df (by rw [len_nat]; omega)
    rw [if_neg hc,if_neg hc]
    exact .inr ⟨_,_,rfl,rfl,.inl ⟨m,a,rfl,rfl,hv⟩⟩
theorem keys_both (F:Nat) (m:List (Int×List Int)) (a:List (List Int)) (q:Int) (hv:Vals m a) (f:T_Flash) (s:T_Store) (hM:Mt F f s) (hF:200000<F) (hFF:F≤FF) :
    ∃o p,iter (fun z:T_Store×List T_Write×Int=>bonds_Plan_l1 F (m,q) z.1 z.2.1 z.2.2) F (s,[],0)=some o∧iter (fun z:T_Store×List T_Write×Int=>wirelessref40_Plan_l1 F a z.1 z.2.1 z.2.2) F (s,[],0)=some p∧
      ((∃ws,o = .inl ws∧p = .inl ws∧ws.length≤48)∨∃e,o = .inr ([],e)∧p = .inr ([],e)):=by
  refine iter_sim (b1:=fun z:T_Store×List T_Write×Int=>bonds_Plan_l1 F (m,q) z.1 z.2.1 z.2.2) (b2:=fun z:T_Store×List T_Write×Int=>wirelessref40_Plan_l1 F a z.1 z.2.1 z.2.2)
    (fun z t=>z=t∧(∃f,Mt F f z.1)∧∃i:Nat,z.2.2=(i:Int)∧i≤16∧z.2.1.length≤3 * i) _ (fun z=>16 - z.2.2.toNat) (fun z t h=>?_) F (s,[],0) (s,[],0) ⟨rfl,⟨f,hM⟩,0,rfl,by omega,by simp⟩ (by simp; omega)
  obtain⟨rfl,⟨f,hM⟩,i,hi,hi16,hlen⟩:=h
  obtain⟨s,ws,j⟩:=z
  simp only at hi hM hlen
  subst hi
  show (∃t1 t2,bonds_Plan_l1 F (m,q) s ws (i:Int)=some (.next t1)∧wirelessref40_Plan_l1 F a s ws (i:Int)=some (.next t2)∧_)∨∃o1 o2,bonds_Plan_l1 F (m,q) s ws (i:Int)=some (.done o1)∧wirelessref40_Plan_l1 F a s ws (i:Int)=some (.done o2)∧_
  unfold bonds_Plan_l1 wirelessref40_Plan_l1
  by_cases hin:i<16
  · have hc:decide ((i:Int)<16)=true:=dt (by omega)
    have hx:=hv.e i hin
    have hin2:idxn 16 a (i:Int)=some (mval [] m i):=by
      unfold idxn
      rw [if_pos (by omega),idx_nat,hx]
    have hix:idx a (i:Int)=some (mval [] m i):=by rw [idx_nat,hx]
    obtain⟨ws',e,p1,p2,p3,p4⟩:=put_mt F f s hM i (by omega) (by omega) (mval [] m i) (hv.b i hin) hF hFF
    rw [if_pos hc,if_pos hc,hin2,Option.bind_some,hix,Option.bind_some,wu16_id (x:=(i:Int)) (by omega) (by omega),p1,p2,Option.bind_some,Option.bind_some]
    unfold wirelessref40_Plan_j3
    simp only
    by_cases h0:e=0
    · subst h0
      obtain⟨g,t,t1,t2,t3⟩:=p4 rfl
      rw [if_neg (show ¬ ((0:Int) != 0)=true by decide),if_neg (show ¬ ((0:Int) != 0)=true by decide),t1,Option.bind_some]
      simp only
      rw [if_neg (show ¬ ((0:Int) != 0)=true by decide),app_small (by omega) (by decide),Option.bind_some,Option.bind_some,hin2,Option.bind_some,hix,Option.bind_some,wu16_id (x:=(i:Int)) (by omega) (by omega),t2,Option.bind_some,w64_nat i (by omega),wu16_id (x:=(i:Int)+1) (by omega) (by omega)]
      exact .inl ⟨(t,ws++ws',((i+1:Nat):Int)),(t,ws++ws',((i+1:Nat):Int)),rfl,rfl,⟨rfl,⟨g,t3⟩,i+1,rfl,by omega,by simp only [List.length_append]; omega⟩,by simp only; omega⟩
    · rw [if_pos (by simp [h0]),if_pos (by simp [h0])]
      exact .inr ⟨_,_,rfl,rfl,.inr ⟨e,rfl,rfl⟩⟩
  · have hc:¬ decide ((i:Int)<16)=true:=df (by omega)
    rw [if_neg hc,if_neg hc]
    exact .inr ⟨_,_,rfl,rfl,.inl ⟨ws,rfl,rfl,by omega⟩⟩
theorem bplan_both (F:Nat) (l:List T_Bond) (hr:∀b∈l,RB b) (f:T_Flash) (s:T_Store) (hM:Mt F f s) (hF:200000<F) (hFF:F≤FF):∃ws e,bonds_Plan F s l=some (ws,e)∧wirelessref40_Plan F s l=some (ws,e)∧ws.length≤48:=by
  unfold bonds_Plan wirelessref40_Plan bonds_records
  rw [len_nat]
  by_cases hl:l.length≤16
  · rw [if_neg (df (by omega)),if_neg (df (by omega))]
    obtain⟨o,p,h1,h2,h3⟩:=recs_both F l hl hr hF
    rw [h1,h2,Option.bind_some,Option.bind_some]
    rcases h3 with ⟨m,a,rfl,rfl,hv⟩ | ⟨e,h0,rfl,rfl⟩
    · unfold bonds_records_j1 wirelessref40_Plan_j1
      simp only [Option.bind_some]
      rw [if_neg (show ¬ ((0:Int) != 0)=true by decide)]
      obtain⟨o,p,k1,k2,k3⟩:=keys_both F m a 0 hv f s hM hF hFF
      rw [k1,k2,Option.bind_some,Option.bind_some]
      rcases k3 with ⟨ws,rfl,rfl,k3⟩ | ⟨e,rfl,rfl⟩
      · exact⟨ws,0,rfl,rfl,k3⟩
      · exact⟨[],e,rfl,rfl,by simp⟩
    · simp only [Option.bind_some]
      rw [if_pos (by simp [h0])]
      exact⟨[],e,rfl,rfl,by simp⟩
  · rw [if_pos (dt (by omega)),if_pos (dt (by omega))]
    exact⟨[],4,rfl,rfl,by simp⟩
def sameA (b c:T_Bond):Bool:=(c.Peer.Address.Kind == b.Peer.Address.Kind)&&(c.Peer.Address.Bits == b.Peer.Address.Bits)
theorem index_any (F:Nat) (l:List T_Bond) (b:T_Bond) (hl:l.length≤1000) (hF:200000<F):∃z,bonds_index_api_Bond_at37 F l b=some z∧(z<0↔(l.any (sameA b))=false):=by
  have key:∀(f i:Nat),i≤l.length→l.length - i<f→∃o,iter (fun s:Int=>bonds_index_api_Bond_at37_l1 F l b s) f (i:Int)=some o∧((o = .inl ()∧(l.drop i).any (sameA b)=false)∨∃j:Nat,o = .inr (j:Int)∧(l.drop i).any (sameA b)=true):=by
    intro f
    induction f with
    | zero=>intro i _ h; omega
    | succ f ih=>
      intro i hi hf
      by_cases hin:i<l.length
      · have hx:l[i]? = some l[i]:=List.getElem?_eq_getElem hin
        have hdr:l.drop i=l[i]::l.drop (i+1):=List.drop_eq_getElem_cons hin
        have hbody:bonds_index_api_Bond_at37_l1 F l b (i:Int)=some (if sameA b l[i]=true then .done (.inr (i:Int)) else .next ((i+1:Nat):Int)):=by
          unfold bonds_index_api_Bond_at37_l1 bonds_Load_1
          rw [if_pos (dt (by rw [len_nat]; omega)),idx_nat,hx,Option.bind_some,Option.bind_some,w64_nat i (by omega)]
          unfold sameA
          split <;> rfl
        rw [hdr,List.any_cons]
        by_cases hs:sameA b l[i]=true
        · rw [if_pos hs] at hbody
          exact⟨_,iter_stop hbody,.inr ⟨i,rfl,by rw [hs]; rfl⟩⟩
        · rw [if_neg hs] at hbody
          rw [(Bool.not_eq_true _).mp hs,Bool.false_or]
          obtain⟨o,h1,h2⟩:=ih (i+1) hin (by omega)
          exact⟨o,by rw [iter_step hbody]; exact h1,h2⟩
      · have:i=l.length:=by omega
        subst this
        refine ⟨.inl (),iter_stop (by show bonds_index_api_Bond_at37_l1 F l b _=_; unfold bonds_index_api_Bond_at37_l1; rw [if_neg (df (by rw [len_nat]; omega))]),.inl ⟨rfl,by rw [List.drop_length]; rfl⟩⟩
  unfold bonds_index_api_Bond_at37
  obtain⟨o,h1,h2⟩:=key F 0 (by omega) (by omega)
  rw [show ((0:Nat):Int)=0 from rfl] at h1
  rw [List.drop_zero] at h2
  rw [h1,Option.bind_some]
  rcases h2 with ⟨rfl,h2⟩ | ⟨j,rfl,h2⟩
  · exact⟨-1,rfl,by simp [h2]⟩
  · exact⟨j,rfl,by simp [h2]⟩
theorem known_any (F:Nat) (l:List T_Bond) (x:T_Bond×Int) (hl:l.length≤1000) (hF:200000<F):iter (fun s:Bool×Int=>wirelessref40_Load_l2 F l x s.1 s.2) F (false,0)=some (l.any (sameA x.1)):=by
  have:=iter_count (body:=fun s:Bool×Int=>wirelessref40_Load_l2 F l x s.1 s.2) (fun i=>((l.take i).any (sameA x.1),(i:Int))) l.length (l.any (sameA x.1)) (by
    intro i hi
    have hx:l[i]? = some l[i]:=List.getElem?_eq_getElem hi
    show wirelessref40_Load_l2 F l x ((l.take i).any (sameA x.1)) (i:Int)=_
    unfold wirelessref40_Load_l2 wirelessref40_Load_j4
    rw [List.take_add_one,hx,Option.toList_some,List.any_append,if_pos (dt (by rw [len_nat]; omega)),idx_nat,hx,Option.bind_some,w64_nat i (by omega)]
    cases (l.take i).any (sameA x.1)
    · rw [if_neg (by decide)]
      simp [sameA]
    · rw [if_pos rfl]
      rfl) (by
    show wirelessref40_Load_l2 F l x _ _=_
    unfold wirelessref40_Load_l2
    rw [if_neg (df (by rw [len_nat]; omega)),List.take_length]) F 0 (by omega) (by omega)
  exact this
theorem load_both (F:Nat) (f:T_Flash) (s:T_Store) (hM:Mt F f s) (hF:200000<F):∃l,bonds_Load F s=some l∧wirelessref40_Load F s=some l∧l.length≤16∧∀b∈l,b.Subs.length≤255:=by
  have hil:=hM.m.il
  have hit:=hM.m.it
  obtain⟨o,p,h1,h2,rfl,h3⟩:=iter_sim (b1:=fun z:List T_Bond×Int=>bonds_Load_l1 F s z.1 z.2) (b2:=fun z:List T_Bond×Int=>wirelessref40_Load_l1 F s z.1 z.2)
    (fun z t=>z=t∧∃i:Nat,z.2=(i:Int)∧i≤16∧z.1.length≤i∧∀b∈z.1,b.Subs.length≤255) (fun o p=>o=p∧o.length≤16∧∀b∈o,b.Subs.length≤255) (fun z=>16 - z.2.toNat) (by
    rintro⟨l,_⟩ _ ⟨rfl,i,rfl,hi16,hlen,hsub⟩
    simp only at hlen hsub
    show (∃t1 t2,bonds_Load_l1 F s l (i:Int)=some (.next t1)∧wirelessref40_Load_l1 F s l (i:Int)=some (.next t2)∧_)∨∃o1 o2,bonds_Load_l1 F s l (i:Int)=some (.done o1)∧wirelessref40_Load_l1 F s l (i:Int)=some (.done o2)∧_
    unfold bonds_Load_l1 wirelessref40_Load_l1
    by_cases hin:i<16
    · have hc:decide ((i:Int)<16)=true:=dt (by omega)
      have hw1:wu16 (i:Int)=(i:Int):=wu16_id (by omega) (by omega)
      have hw2:wu16 ((i:Int)+1)=((i+1:Nat):Int):=by rw [wu16_id (by omega) (by omega)]; omega
      have skip:∀l':List T_Bond,bonds_Load_j2 F (i:Int) l'=some (.next (l',((i+1:Nat):Int)))∧wirelessref40_Load_j2 F (i:Int) l'=some (.next (l',((i+1:Nat):Int))):=fun l'=>by
        unfold bonds_Load_j2 wirelessref40_Load_j2
        rw [hw2,w64_nat i (by omega)]
        exact⟨rfl,rfl⟩
      rw [if_pos hc,if_pos hc,hw1,get_eq F s i hit (by omega) hF,rget_eq F s i (fun x hx=>by have:=(hit.ok x hx).vl; omega) (by omega) hF,Option.bind_some,Option.bind_some]
      have nx:∀l':List T_Bond,l'.length≤i+1→(∀b∈l',b.Subs.length≤255)→(((l',((i+1:Nat):Int))=(l',((i+1:Nat):Int))∧∃q:Nat,((i+1:Nat):Int)=(q:Int)∧q≤16∧l'.length≤q∧∀b∈l',b.Subs.length≤255)∧16 - ((i+1:Nat):Int).toNat<16 - (i:Int).toNat):=fun l' h1 h2=>⟨⟨rfl,i+1,rfl,by omega,h1,h2⟩,by omega⟩
      cases hg:s.Items.find? fun x=>x.Key == (i:Int) with
      | none=>
        unfold got
        simp only
        rw [if_pos (by decide),if_pos (by decide),(skip l).1,(skip l).2]
        exact .inl ⟨_,_,rfl,rfl,nx l (by omega) hsub⟩
      | some it=>
        have hok:=hit.ok it (List.mem_of_find?_eq_some hg)
        have hvl:=hok.vl
        obtain⟨r,d1,d2,d3⟩:=dec_both F it.Value (by omega) hok.vb (by omega)
        unfold got
        simp only
        rw [if_neg (by decide),if_neg (by decide),d1,d2,Option.bind_some,Option.bind_some,known_any F l r (by omega) hF,Option.bind_some]
        unfold wirelessref40_Load_j3
        obtain⟨z,z1,z2⟩:=index_any F l r.1 (by omega) hF
        by_cases h0:r.2=0
        · rw [if_neg (by simp [h0]),z1,Option.bind_some]
          cases hk:l.any (sameA r.1)
          · have hz:=z2.2 hk
            rw [if_pos (dt hz),if_pos (by simp [h0]),app_small (by simp; omega) (by decide),Option.bind_some,Option.bind_some,(skip _).1,(skip _).2]
            refine .inl ⟨_,_,rfl,rfl,nx _ (by simp; omega) fun b hb=>?_⟩
            rcases List.mem_append.1 hb with hb | hb
            · exact hsub b hb
            · rw [List.mem_singleton] at hb
              subst hb
              exact d3
          · have hz:¬ z<0:=fun h=>by rw [z2.1 h] at hk; cases hk
            rw [if_neg (df hz),if_neg (by simp),(skip _).1,(skip _).2]
            exact .inl ⟨_,_,rfl,rfl,nx l (by omega) hsub⟩
        · rw [if_pos (by simp [h0]),if_neg (by simp [h0]),(skip _).1,(skip _).2]
          exact .inl ⟨_,_,rfl,rfl,nx l (by omega) hsub⟩
    · have hc:¬ decide ((i:Int)<16)=true:=df (by omega)
      rw [if_neg hc,if_neg hc]
      exact .inr ⟨_,_,rfl,rfl,rfl,by omega,hsub⟩) F ([],0) ([],0) ⟨rfl,0,rfl,by omega,by simp,fun b h=>by cases h⟩ (by simp; omega)
  refine ⟨o,?_,?_,h3⟩
  · unfold bonds_Load
    rw [h1]
    rfl
  · unfold wirelessref40_Load
    rw [h2]
    rfl
theorem sameB_refl (F:Nat) (l:List T_Bond) (hl:l.length≤1000) (hs:∀b∈l,b.Subs.length≤1000) (hF:200000<F):wirelessref40_Same F l l=some true:=by
  unfold wirelessref40_Same
  rw [if_neg (by simp)]
  have:=iter_count (body:=fun s:Int=>wirelessref40_Same_l1 F l l s) (fun i=>(i:Int)) l.length (.inl ()) (by
    intro i hi
    have hx:l[i]? = some l[i]:=List.getElem?_eq_getElem hi
    have hsb:=hs _ (List.getElem_mem hi)
    show wirelessref40_Same_l1 F l l (i:Int)=_
    unfold wirelessref40_Same_l1 wirelessref40_Same_j2
    rw [if_pos (dt (by rw [len_nat]; omega)),idx_nat,hx,Option.bind_some,Option.bind_some,same_bond F _ (by omega) hsb,Option.bind_some,if_neg (by decide),w64_nat i (by omega)]) (by
    show wirelessref40_Same_l1 F l l _=_
    unfold wirelessref40_Same_l1
    rw [if_neg (df (by rw [len_nat]; omega))]) F 0 (by omega) (by omega)
  rw [show ((0:Nat):Int)=0 from rfl] at this
  rw [this]
  rfl
theorem lives_ok:wirelesslaw40_lives FF=some true:=by kernel_rfl
theorem stores_law (F:Nat) (hL:wirelesslaw40_lives F=some true) (f:T_Flash) (l:List T_Bond) (hb1:∀x∈f.Banks.1,Byte x) (hb2:∀x∈f.Banks.2,Byte x) (hr:∀b∈l,RB b) (hF:200000<F) (hFF:F≤FF):wirelesslaw40_BondsStores F f l=some true:=by
  unfold wirelesslaw40_BondsStores
  rw [hL,Option.bind_some,if_neg (by decide),len_nat,len_nat,len_nat]
  by_cases h1:f.Banks.1.length≤4096
  · rw [if_neg (df (by omega)),Option.bind_some]
    by_cases h2:f.Banks.2.length≤4096∧l.length≤20
    · rw [if_neg (by simp; omega)]
      obtain⟨o,q1,q2⟩:=iter_by (body:=fun s:Int=>wirelesslaw40_BondsStores_l1 F l s) (fun s=>∃i:Nat,s=(i:Int)∧i≤l.length∧∀j,j<i→∀b,l[j]? = some b→b.Subs.length≤64) (fun o=>o = .inr true∨o = .inl ()∧∀b∈l,b.Subs.length≤64) (fun s=>l.length - s.toNat) (by
        rintro _ ⟨i,rfl,hi,hall⟩
        unfold wirelesslaw40_BondsStores_l1
        by_cases hin:i<l.length
        · have hx:l[i]? = some l[i]:=List.getElem?_eq_getElem hin
          rw [if_pos (dt (by rw [len_nat]; omega)),idx_nat,hx,Option.bind_some,len_nat]
          by_cases h64:l[i].Subs.length≤64
          · rw [if_neg (df (by omega)),w64_nat i (by omega)]
            refine .inl ⟨_,rfl,⟨i+1,rfl,by omega,fun j hj b hb=>?_⟩,by omega⟩
            by_cases hji:j=i
            · subst hji
              rw [hx] at hb
              rw [← Option.some.inj hb]
              exact h64
            · exact hall j (by omega) b hb
          · rw [if_pos (dt (by omega))]
            exact .inr ⟨_,rfl,.inl rfl⟩
        · rw [if_neg (df (by rw [len_nat]; omega))]
          refine .inr ⟨_,rfl,.inr ⟨rfl,fun b hb=>?_⟩⟩
          obtain⟨j,hj⟩:=List.getElem?_of_mem hb
          exact hall j (by have:=(List.getElem?_eq_some_iff.1 hj).1; omega) b hj) F 0 ⟨0,rfl,by omega,fun j hj=>by omega⟩ (by simp; omega)
      rw [q1,Option.bind_some]
      rcases q2 with rfl | ⟨rfl,hsub⟩
      · rfl
      · unfold wirelesslaw40_BondsStores_j1
        rw [copy_id F f (by omega) (by omega),Option.bind_some]
        obtain⟨s,e,e1,e2,hLs,he⟩:=mount_both F f hb1 hb2 hF hFF
        rw [e1,e2,Option.bind_some,Option.bind_some]
        rcases he with ⟨rfl,hm⟩ | ⟨rfl,_⟩
        · have hM:Mt F f s:=⟨hm,e2,hb1,hb2⟩
          obtain⟨ws,e,b1,b2,b3⟩:=bplan_both F l hr f s hM hF hFF
          obtain⟨k,k1,k2,k3,k4⟩:=load_both F f s hM hF
          rw [if_neg (by simp),copy_ok F l (by omega) (by omega) (fun b hb=>by have:=hsub b hb; omega),Option.bind_some,b1,Option.bind_some]
          unfold wirelesslaw40_BondsStores_j2 wirelesslaw40_BondsStores_j3
          simp only
          rw [b2,Option.bind_some,if_pos (by simp),sameW_refl F ws (by omega) hF,Option.bind_some,if_pos rfl,k1,k2,Option.bind_some,Option.bind_some,sameB_refl F k (by omega) (fun b hb=>by have:=k4 b hb; omega) hF]
          rfl
        · rw [if_pos (by simp)]
          simp
    · rw [if_pos (by simp; omega)]
  · rw [if_pos (dt (by omega)),Option.bind_some,Bool.true_or,if_pos rfl]
theorem gu64 {x:Int} (h:GInt .u64 x):U64 x:=by
  have h1:IntKind.u64.min=0:=rfl
  have h2:IntKind.u64.max=18446744073709551615:=rfl
  unfold GInt at h
  rw [h1,h2] at h
  unfold U64
  omega
theorem gu16 {x:Int} (h:GInt .u16 x):0≤x∧x<65536:=by
  have h1:IntKind.u16.min=0:=rfl
  have h2:IntKind.u16.max=65535:=rfl
  unfold GInt at h
  rw [h1,h2] at h
  omega
theorem gbyte {x:Int} (h:GInt .u8 x):Byte x:=by
  have h1:IntKind.u8.min=0:=rfl
  have h2:IntKind.u8.max=255:=rfl
  unfold GInt at h
  rw [h1,h2] at h
  unfold Byte
  omega
theorem gbond {b:T_Bond} (h:G_T_Bond b):RB b:=by
  obtain⟨⟨⟨_,h1⟩,h2⟩,h3,h4,_,h5,_,h6,_⟩:=h
  exact⟨gu64 h1,gu64 h2,gu64 h3,gu64 h4,gu64 h5,fun s hs=>gu16 (h6.2 s hs).1⟩
theorem stores_g (f:T_Flash) (l:List T_Bond) (h:G_T_Flash f) (hl:GAll G_T_Bond l):wirelesslaw40_BondsStores FF f l=some true:=
  stores_law FF lives_ok f l (fun x hx=>gbyte (h.1.2 x hx)) (fun x hx=>gbyte (h.2.2 x hx)) (fun b hb=>gbond (hl.2 b hb)) (by decide) (Nat.le_refl _)
end V
end Go.Proofs.YtbdhonofhlpdoaaGreatDoor
