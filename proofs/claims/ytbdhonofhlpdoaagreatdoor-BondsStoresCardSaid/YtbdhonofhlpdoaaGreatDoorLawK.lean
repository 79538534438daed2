/- Items, records, Mount, Get, Apply, Plan. -/
import Derived.Test.YtbdhonofhlpdoaaGreatDoorLawI
namespace Go.Proofs.YtbdhonofhlpdoaaGreatDoor
namespace V
structure OkI (x:T_Item):Prop where
  k0:0≤x.Key
  k1:x.Key<65536
  vb:∀b∈x.Value,Byte b
  vl:x.Value.length≤1024
  vn:x.Value≠[]
structure Lst (l:List T_Item):Prop where
  ord:l.Pairwise fun a b=>a.Key<b.Key
  ok:∀x∈l,OkI x
theorem lst_nil:Lst []:=⟨.nil,fun _ h=>by cases h⟩
theorem split_at (k:Int):∀(l:List T_Item),(l.Pairwise fun a b=>a.Key<b.Key)→∃a b,l=a++b∧(∀x∈a,x.Key<k)∧∀x∈b,k≤x.Key
  | [],_=>⟨[],[],rfl,(fun _ h=>by cases h),(fun _ h=>by cases h)⟩
  | c::l,h=>by
    obtain⟨h1,h2⟩:=List.pairwise_cons.1 h
    by_cases hc:c.Key<k
    · obtain⟨a,b,rfl,ha,hb⟩:=split_at k l h2
      refine ⟨c::a,b,rfl,?_,hb⟩
      intro x hx
      rcases List.mem_cons.1 hx with rfl | hx
      · exact hc
      · exact ha x hx
    · refine ⟨[],c::l,rfl,(fun _ h=>by cases h),?_⟩
      intro x hx
      rcases List.mem_cons.1 hx with rfl | hx
      · omega
      · have:=h1 x hx
        omega
def hd (k:Int):List T_Item→Bool
  | []=>false
  | c::_=>c.Key == k
theorem cmp_eq (F:Nat) (x:T_Item) (k:Int):flash_place_1 F x k=some (if x.Key<k then -1 else if x.Key > k then 1 else 0):=by
  unfold flash_place_1 cmp_Compare_uint16 cmp_isNaN_uint16
  simp only [Option.bind_some,bne_self_eq_false,Bool.false_eq_true,if_false,decide_eq_true_eq]
  by_cases h1:x.Key<k
  · rw [if_pos h1,if_pos h1]; rfl
  · rw [if_neg h1,if_neg h1]
    by_cases h2:x.Key > k
    · rw [if_pos h2,if_pos h2]; rfl
    · rw [if_neg h2,if_neg h2]; rfl
theorem at_a {a b:List T_Item} {i:Nat} {x:T_Item} (k:Int) (ha:∀x∈a,x.Key<k) (hb:∀x∈b,k≤x.Key) (hx:(a++b)[i]? = some x):x.Key<k↔i<a.length:=by
  by_cases hi:i<a.length
  · rw [List.getElem?_append_left hi] at hx
    have:=ha x (List.mem_of_getElem? hx)
    omega
  · rw [List.getElem?_append_right (by omega)] at hx
    have:=hb x (List.mem_of_getElem? hx)
    omega
theorem place_eq (F:Nat) (a b:List T_Item) (k:Int) (ha:∀x∈a,x.Key<k) (hb:∀x∈b,k≤x.Key) (hl:(a++b).length≤100000) (hF:200000<F):flash_place F (a++b) k=some ((a.length:Int),hd k b):=by
  unfold flash_place slices_BinarySearchFunc_api_Item_api_Item_uint16_at93
  obtain⟨o,h1,h2⟩:=iter_by (body:=fun s:Int×Int=>slices_BinarySearchFunc_api_Item_api_Item_uint16_at93_l1 F (a++b) k s.1 s.2) (fun s=>∃lo hi:Nat,s=((lo:Int),(hi:Int))∧lo≤a.length∧a.length≤hi∧hi≤(a++b).length) (fun o=>o=(a.length:Int)) (fun s=>(s.2 - s.1).toNat) (by
    rintro _ ⟨lo,hi,rfl,h1,h2,h3⟩
    show (∃s',slices_BinarySearchFunc_api_Item_api_Item_uint16_at93_l1 F (a++b) k (lo:Int) (hi:Int)=some (.next s')∧_)∨∃o,slices_BinarySearchFunc_api_Item_api_Item_uint16_at93_l1 F (a++b) k (lo:Int) (hi:Int)=some (.done o)∧_
    unfold slices_BinarySearchFunc_api_Item_api_Item_uint16_at93_l1
    by_cases hc:lo<hi
    · have hm:w64 (shrp (wu64 (w64 ((lo:Int)+hi))) 1)=(((lo+hi) / 2:Nat):Int):=by
        rw [w64_id (x:=(lo:Int)+hi) (by omega) (by omega),wu64_id (by omega) (by omega)]
        unfold shrp
        rw [Int.fdiv_eq_ediv_of_nonneg _ (by decide),w64_id (by omega) (by omega)]
        omega
      have hlt:(lo+hi) / 2<(a++b).length:=by omega
      have hx:(a++b)[(lo+hi) / 2]? = some (a++b)[(lo+hi) / 2]:=List.getElem?_eq_getElem hlt
      have hk:=at_a k ha hb hx
      generalize (a++b)[(lo+hi) / 2]=x at hx hk
      rw [if_pos (dt (by omega)),hm,idx_nat,hx,Option.bind_some,cmp_eq,Option.bind_some]
      by_cases hq:x.Key<k
      · rw [if_pos hq,if_pos (by decide),w64_nat _ (by omega)]
        exact .inl ⟨_,rfl,⟨(lo+hi) / 2+1,hi,rfl,by omega,h2,h3⟩,by simp only; omega⟩
      · have hneg:¬ decide ((if x.Key<k then (-1:Int) else if x.Key > k then 1 else 0)<0)=true:=by
          rw [if_neg hq]
          split <;> decide
        rw [if_neg hneg]
        exact .inl ⟨_,rfl,⟨lo,(lo+hi) / 2,rfl,h1,by omega,by omega⟩,by simp only; omega⟩
    · rw [if_neg (df (by omega))]
      exact .inr ⟨_,rfl,by omega⟩) F (0,len (a++b)) ⟨0,(a++b).length,rfl,by omega,by simp,by omega⟩ (by rw [len_nat]; simp only; omega)
  rw [h1,h2,Option.bind_some]
  unfold slices_BinarySearchFunc_api_Item_api_Item_uint16_at93_j1
  rw [len_nat,idx_nat]
  cases b with
  | nil=>
    rw [if_neg (df (by simp))]
    rfl
  | cons c b=>
    rw [if_pos (dt (by simp; omega)),List.getElem?_append_right (by omega),Nat.sub_self]
    simp only [List.getElem?_cons_zero,Option.bind_some,cmp_eq]
    have:=hb c (by simp)
    have e:((if c.Key<k then (-1:Int) else if c.Key > k then 1 else 0) == 0)=(c.Key == k):=by
      rw [if_neg (by omega)]
      by_cases h:c.Key=k
      · rw [if_neg (by omega),h]; simp
      · rw [if_pos (by omega)]; simp; omega
    rw [e]
    rfl
def setL (a b:List T_Item) (r:T_Item):List T_Item:=a++(if r.Value=[] then [] else [r])++(if hd r.Key b=true then b.tail else b)
theorem set_eq (F:Nat) (a b:List T_Item) (r:T_Item) (ha:∀x∈a,x.Key<r.Key) (hb:∀x∈b,r.Key≤x.Key) (hl:(a++b).length≤100000) (hF:200000<F):flash_set F (a++b) r=some (setL a b r):=by
  unfold flash_set setL
  rw [place_eq F a b r.Key ha hb hl hF,Option.bind_some]
  rw [len_nat]
  simp only
  by_cases hv:r.Value=[]
  · rw [if_pos hv]
    cases hh:hd r.Key b with
    | true=>
      cases b with
      | nil=>cases hh
      | cons c b=>
        rw [if_pos (by simp [hv])]
        unfold slices_Delete_api_Item_api_Item
        rw [w64_nat _ (by simp at hl; omega),if_pos (by simp; omega)]
        simp
    | false=>
      rw [if_neg (by simp),if_pos (by simp [hv])]
      simp
  · rw [if_neg hv]
    have hz:((r.Value.length:Int) == 0)=false:=by
      cases h:r.Value with
      | nil=>exact absurd h hv
      | cons _ _=>simp; omega
    rw [hz]
    cases hh:hd r.Key b with
    | true=>
      cases b with
      | nil=>cases hh
      | cons c b=>
        rw [if_neg (by decide),if_neg (by decide),if_pos rfl,idx_nat,List.getElem?_append_right (by omega),Nat.sub_self]
        simp only [List.getElem?_cons_zero,Option.bind_some]
        unfold upd
        rw [if_pos (by simp; omega)]
        simp
    | false=>
      rw [if_neg (by decide),if_neg (by decide),if_neg (by decide)]
      unfold slices_Insert_api_Item_api_Item
      rw [if_pos ⟨by omega,by simp; omega,rfl,by omega⟩]
      simp
def stp (r:T_Item) (s:List T_Item×Bool) (c:T_Item):List T_Item×Bool:=
  let s':=if (!s.2&&decide (c.Key≥r.Key))=true then (s.1++[r],true) else s
  if (c.Key != r.Key)=true then (s'.1++[c],s'.2) else s'
theorem fold_low (r:T_Item):∀(a o:List T_Item) (d:Bool),(∀x∈a,x.Key<r.Key)→a.foldl (stp r) (o,d)=(o++a,d)
  | [],o,d,_=>by simp
  | c::a,o,d,h=>by
    have hc:=h c (by simp)
    have e:stp r (o,d) c=(o++[c],d):=by
      have q1:decide (c.Key≥r.Key)=false:=decide_eq_false (by omega)
      have q2:(c.Key != r.Key)=true:=by simp; omega
      simp only [stp,q1,q2,Bool.and_false,Bool.false_eq_true,if_false,if_true]
    rw [List.foldl_cons,e,fold_low r a _ d fun x hx=>h x (by simp [hx])]
    simp
theorem fold_high (r:T_Item):∀(b o:List T_Item),(∀x∈b,r.Key<x.Key)→b.foldl (stp r) (o,true)=(o++b,true)
  | [],o,_=>by simp
  | c::b,o,h=>by
    have hc:=h c (by simp)
    have e:stp r (o,true) c=(o++[c],true):=by
      have q2:(c.Key != r.Key)=true:=by simp; omega
      simp only [stp,q2,Bool.not_true,Bool.false_and,Bool.false_eq_true,if_false,if_true]
    rw [List.foldl_cons,e,fold_high r b _ fun x hx=>h x (by simp [hx])]
    simp
theorem fold_len (r:T_Item):∀(l o:List T_Item) (d:Bool),(l.foldl (stp r) (o,d)).1.length≤o.length+2 * l.length
  | [],o,d=>by simp
  | c::l,o,d=>by
    rw [List.foldl_cons]
    have:(stp r (o,d) c).1.length≤o.length+2:=by
      unfold stp
      split <;> split <;> simp
    have h:(l.foldl (stp r) (stp r (o,d) c)).1.length≤(stp r (o,d) c).1.length+2 * l.length:=fold_len r l (stp r (o,d) c).1 (stp r (o,d) c).2
    rw [List.length_cons]
    omega
theorem ritem_app {l m:List T_Item} (h:l.length+m.length≤1000000):app 32 l m=some (l++m):=app_small (by omega) (by decide)
theorem rset_fold (F:Nat) (l:List T_Item) (r:T_Item) (hv:r.Value.length≤100000) (hl:l.length≤100000) (hF:200000<F) :
    iter (fun s:List T_Item×Bool×Int=>wirelessref39_Set_l1 F l r.Key r.Value s.1 s.2.1 s.2.2) F ([],(len r.Value == 0),0)=some (l.foldl (stp r) ([],len r.Value == 0)):=by
  have:=iter_count (body:=fun s:List T_Item×Bool×Int=>wirelessref39_Set_l1 F l r.Key r.Value s.1 s.2.1 s.2.2) (fun i=>(((l.take i).foldl (stp r) ([],len r.Value == 0)).1,((l.take i).foldl (stp r) ([],len r.Value == 0)).2,(i:Int))) l.length (l.foldl (stp r) ([],len r.Value == 0)) (by
    intro i hi
    have hx:l[i]? = some l[i]:=List.getElem?_eq_getElem hi
    have hn:=fold_len r (l.take i) [] (len r.Value == 0)
    have hn2:((l.take i).foldl (stp r) ([],len r.Value == 0)).1.length≤200000:=by
      rw [List.length_take] at hn
      simp only [List.length_nil] at hn
      omega
    clear hn
    rw [List.take_add_one,hx,Option.toList_some,List.foldl_append,List.foldl_cons,List.foldl_nil]
    show wirelessref39_Set_l1 F l r.Key r.Value ((l.take i).foldl (stp r) ([],len r.Value == 0)).1 ((l.take i).foldl (stp r) ([],len r.Value == 0)).2 (i:Int)=_
    generalize (l.take i).foldl (stp r) ([],len r.Value == 0)=s at *
    generalize l[i]=c at *
    obtain⟨o,d⟩:=s
    simp only at hn2 ⊢
    unfold wirelessref39_Set_l1 wirelessref39_Set_j4 wirelessref39_Set_j3
    rw [if_pos (dt (by rw [len_nat]; omega)),idx_nat,hx]
    simp only [Option.bind_some,w64_nat i (by omega)]
    rw [app_cat (l:=[]) (m:=r.Value) (by simp; omega),Option.bind_some,List.nil_append]
    have er:(⟨r.Key,r.Value⟩:T_Item)=r:=rfl
    rw [er,ritem_app (by simp; omega)]
    simp only [Option.bind_some]
    rw [ritem_app (l:=o++[r]) (by simp; omega),ritem_app (l:=o) (m:=[c]) (by simp; omega)]
    simp only [Option.bind_some]
    unfold stp
    cases d <;> cases hq:decide (c.Key≥r.Key) <;> cases hz:(c.Key != r.Key) <;> rfl) (by
    show wirelessref39_Set_l1 F l _ _ _ _ _=_
    unfold wirelessref39_Set_l1
    rw [if_neg (df (by rw [len_nat l]; simp only; omega)),List.take_length]) F 0 (by omega) (by omega)
  exact this
theorem rset_eq (F:Nat) (a b:List T_Item) (r:T_Item) (ha:∀x∈a,x.Key<r.Key) (hb:∀x∈b,r.Key≤x.Key) (ho:(a++b).Pairwise fun x y=>x.Key<y.Key) (hv:r.Value.length≤100000) (hl:(a++b).length≤100000) (hF:200000<F) :
    wirelessref39_Set F (a++b) r.Key r.Value=some (setL a b r):=by
  unfold wirelessref39_Set
  rw [rset_fold F _ r hv hl hF,Option.bind_some,List.foldl_append,fold_low r a [] _ ha,List.nil_append]
  have hob:b.Pairwise fun x y=>x.Key<y.Key:=(List.pairwise_append.1 ho).2.1
  unfold setL wirelessref39_Set_j1 wirelessref39_Set_j2
  have er:(⟨r.Key,r.Value⟩:T_Item)=r:=rfl
  have happ:app 1 ([]:List Int) r.Value=some r.Value:=by rw [app_cat (by simp; omega)]; rfl
  by_cases hz:r.Value=[]
  · have hd0:(len r.Value == 0)=true:=by rw [hz]; rfl
    rw [hd0,if_pos hz]
    cases b with
    | nil=>simp [hd]
    | cons c b=>
      obtain⟨h1,h2⟩:=List.pairwise_cons.1 hob
      have hc:=hb c (by simp)
      by_cases hk:c.Key=r.Key
      · have e:stp r (a,true) c=(a,true):=by
          have q2:(c.Key != r.Key)=false:=by simp [hk]
          simp only [stp,q2,Bool.not_true,Bool.false_and,Bool.false_eq_true,if_false]
        rw [List.foldl_cons,e,fold_high r b a fun x hx=>by have:=h1 x hx; omega]
        simp [hd,hk]
      · have e:stp r (a,true) c=(a++[c],true):=by
          have q2:(c.Key != r.Key)=true:=by simp [hk]
          simp only [stp,q2,Bool.not_true,Bool.false_and,Bool.false_eq_true,if_false,if_true]
        rw [List.foldl_cons,e,fold_high r b _ fun x hx=>by have:=h1 x hx; omega]
        simp [hd,hk]
  · have hd0:(len r.Value == 0)=false:=by
      cases h:r.Value with
      | nil=>exact absurd h hz
      | cons _ _=>simp [len]; omega
    rw [hd0,if_neg hz]
    cases b with
    | nil=>
      rw [List.foldl_nil,if_pos (show (!(a,false).snd)=true from rfl),happ,Option.bind_some,er,ritem_app (by simp at hl ⊢; omega),Option.bind_some]
      simp [hd]
    | cons c b=>
      obtain⟨h1,h2⟩:=List.pairwise_cons.1 hob
      have hc:=hb c (by simp)
      by_cases hk:c.Key=r.Key
      · have e:stp r (a,false) c=(a++[r],true):=by
          have q1:decide (c.Key≥r.Key)=true:=decide_eq_true (by omega)
          have q2:(c.Key != r.Key)=false:=by simp [hk]
          simp only [stp,q1,q2,Bool.not_false,Bool.and_true,Bool.false_eq_true,if_false,if_true]
        rw [List.foldl_cons,e,fold_high r b _ fun x hx=>by have:=h1 x hx; omega]
        simp [hd,hk]
      · have e:stp r (a,false) c=(a++[r]++[c],true):=by
          have q1:decide (c.Key≥r.Key)=true:=decide_eq_true (by omega)
          have q2:(c.Key != r.Key)=true:=by simp [hk]
          simp only [stp,q1,q2,Bool.not_false,Bool.and_true,if_true]
        rw [List.foldl_cons,e,fold_high r b _ fun x hx=>by have:=h1 x hx; omega]
        simp [hd,hk]
theorem iter_sim {S1 S2 O1 O2:Type} {b1:S1→Option (Out S1 O1)} {b2:S2→Option (Out S2 O2)} (R:S1→S2→Prop) (Q:O1→O2→Prop) (m:S1→Nat)
    (h:∀s1 s2,R s1 s2→(∃t1 t2,b1 s1=some (.next t1)∧b2 s2=some (.next t2)∧R t1 t2∧m t1<m s1)∨∃o1 o2,b1 s1=some (.done o1)∧b2 s2=some (.done o2)∧Q o1 o2) :
    ∀(F:Nat) (s1:S1) (s2:S2),R s1 s2→m s1<F→∃o1 o2,iter b1 F s1=some o1∧iter b2 F s2=some o2∧Q o1 o2
  | 0,_,_,_,hF=>by omega
  | F+1,s1,s2,hR,hF=>by
    rcases h s1 s2 hR with ⟨t1,t2,h1,h2,hR',hm⟩ | ⟨o1,o2,h1,h2,hq⟩
    · obtain⟨o1,o2,h3,h4,hq⟩:=iter_sim R Q m h F t1 t2 hR' (by omega)
      exact⟨o1,o2,by rw [iter_step h1,h3],by rw [iter_step h2,h4],hq⟩
    · exact⟨o1,o2,iter_stop h1,iter_stop h2,hq⟩
theorem high {k:Int} {b:List T_Item} (ho:b.Pairwise fun x y=>x.Key<y.Key) (hb:∀x∈b,k≤x.Key):∀x∈(if hd k b=true then b.tail else b),k<x.Key∧x∈b:=by
  cases b with
  | nil=>intro x hx; simp [hd] at hx
  | cons c b=>
    obtain⟨h1,h2⟩:=List.pairwise_cons.1 ho
    have hc:=hb c (by simp)
    intro x hx
    by_cases hk:c.Key=k
    · rw [if_pos (by simp [hd,hk])] at hx
      have:=h1 x hx
      exact⟨by omega,List.mem_cons_of_mem _ hx⟩
    · rw [if_neg (by simp [hd,hk])] at hx
      refine ⟨?_,hx⟩
      rcases List.mem_cons.1 hx with rfl | hx
      · omega
      · have:=h1 x hx
        omega
theorem setL_lst {a b:List T_Item} {r:T_Item} (h:Lst (a++b)) (ha:∀x∈a,x.Key<r.Key) (hb:∀x∈b,r.Key≤x.Key) (k0:0≤r.Key) (k1:r.Key<65536) (vb:∀x∈r.Value,Byte x) (vl:r.Value.length≤1024):Lst (setL a b r):=by
  obtain⟨ho,hk⟩:=h
  obtain⟨oa,ob,oab⟩:=List.pairwise_append.1 ho
  have hh:=high ob hb
  have hsub:(if hd r.Key b=true then b.tail else b).Pairwise fun x y=>x.Key<y.Key:=by
    split
    · exact ob.sublist (List.tail_sublist b)
    · exact ob
  unfold setL
  generalize (if hd r.Key b=true then b.tail else b)=y at *
  by_cases hv:r.Value=[]
  · rw [if_pos hv,List.append_nil]
    refine ⟨List.pairwise_append.2 ⟨oa,hsub,fun x hx z hz=>oab x hx z (hh z hz).2⟩,?_⟩
    intro x hx
    rcases List.mem_append.1 hx with hx | hx
    · exact hk x (List.mem_append_left _ hx)
    · exact hk x (List.mem_append_right _ (hh x hx).2)
  · rw [if_neg hv,List.append_assoc]
    refine ⟨List.pairwise_append.2 ⟨oa,?_,?_⟩,?_⟩
    · exact List.pairwise_cons.2 ⟨fun z hz=>(hh z hz).1,hsub⟩
    · intro x hx z hz
      rcases List.mem_cons.1 hz with rfl | hz
      · exact ha x hx
      · exact oab x hx z (hh z hz).2
    · intro x hx
      rcases List.mem_append.1 hx with hx | hx
      · exact hk x (List.mem_append_left _ hx)
      · rcases List.mem_cons.1 hx with rfl | hx
        · exact⟨k0,k1,vb,vl,hv⟩
        · exact hk x (List.mem_append_right _ (hh x hx).2)
theorem setL_len (a b:List T_Item) (r:T_Item):(setL a b r).length≤(a++b).length+1:=by
  unfold setL
  have h1:(if r.Value=[] then [] else [r]).length≤1:=by split <;> simp
  have h2:(if hd r.Key b=true then b.tail else b).length≤b.length:=by split <;> simp
  simp only [List.length_append]
  omega
theorem set_both (F:Nat) (l:List T_Item) (r:T_Item) (h:Lst l) (k0:0≤r.Key) (k1:r.Key<65536) (vb:∀x∈r.Value,Byte x) (vl:r.Value.length≤1024) (hl:l.length≤100000) (hF:200000<F) :
    ∃m,flash_set F l r=some m∧wirelessref39_Set F l r.Key r.Value=some m∧Lst m∧m.length≤l.length+1:=by
  obtain⟨a,b,rfl,ha,hb⟩:=split_at r.Key l h.ord
  exact⟨setL a b r,set_eq F a b r ha hb hl hF,rset_eq F a b r ha hb h.ord (by omega) hl hF,setL_lst h ha hb k0 k1 vb vl,setL_len a b r⟩
def sl (b:List Int) (i j:Nat):List Int:=(b.take j).drop i
theorem sl_byte {b:List Int} (hb:∀x∈b,Byte x) (i j:Nat):∀x∈sl b i j,Byte x:=fun x hx=>hb x (List.mem_of_mem_take (List.mem_of_mem_drop hx))
theorem sl_len {b:List Int} {i j:Nat} (h:i≤j) (h2:j≤b.length):(sl b i j).length=j - i:=by simp [sl]; omega
theorem num2 {b:List Int} (hb:∀x∈b,Byte x) {i:Nat} (h:i+2≤b.length):0≤num (sl b i (i+2))∧num (sl b i (i+2))<65536:=by
  have h1:=num_lt (sl_byte hb i (i+2))
  rw [sl_len (by omega) h,show i+2 - i=2 from by omega] at h1
  exact⟨num_nonneg (sl_byte hb i (i+2)),h1⟩
theorem wE {i:Nat} (h:i≤1000000) (k:Nat) (hk:k≤1000000):w64 ((i:Int)+k)=((i+k:Nat):Int):=by rw [w64_id (by omega) (by omega)]; omega
theorem wE2 (i:Nat) (h:i≤1000000):w64 ((i:Int)+2)=((i+2:Nat):Int):=wE h 2 (by decide)
theorem wE4 (i:Nat) (h:i≤1000000):w64 ((i:Int)+4)=((i+4:Nat):Int):=wE h 4 (by decide)
theorem wE8 (i:Nat) (h:i≤1000000):w64 ((i:Int)+8)=((i+8:Nat):Int):=wE h 8 (by decide)
theorem wS (i j:Nat) (h:i≤j) (h2:j≤1000000):w64 ((j:Int) - (i:Int))=((j - i:Nat):Int):=by rw [w64_id (by omega) (by omega)]; omega
theorem wN (n:Nat) (h:n≤1000000):w64 (n:Int)=(n:Int):=w64_id (by omega) (by omega)
theorem need_ok (F:Nat) (c:Bool) (h:c=true):flash_need F c=some ():=by subst h; rfl
theorem sub_sl (b:List Int) (i j:Nat) (h1:i≤j) (h2:j≤b.length):sub b (i:Int) (j:Int)=some (sl b i j):=sub_nat b i j h1 h2
theorem readP_core (F:Nat) (b:List Int) (e n K:Nat) (v w:List Int) (hl:b.length≤65536) (h8:e+8≤b.length) (hF:200000<F) (hFF:F≤FF)
    (hV:flash_value F (sl b e (e+2))=some (n:Int)) (hn:n<65536) (hK:flash_value F (sl b (e+2) (e+4))=some (K:Int)) (hk:K<65536)
    (hv:sl b (e+4) (e+4+n)=v) (hw:sl b e (e+8+n)=w) (hvb:∀x∈v,Byte x) (hvl:n≤1024→e+8+n≤b.length→v.length=n) :
    flash_readP F b e=some (if n≤1024∧e+8+n≤b.length∧recB K v=w then some (⟨K,v⟩,((e+8+n:Nat):Int)) else none):=by
  unfold flash_readP
  have c8:decide (((e+8:Nat):Int)≤(b.length:Int))=true:=dt (by omega)
  rw [wE8 e (by omega),len_nat,if_pos c8,need_ok F _ c8,Option.bind_some,wE2 e (by omega),wE4 e (by omega),sub_sl b e (e+2) (by omega) (by omega),Option.bind_some,hV,Option.bind_some,wE (i:=e+8) (by omega) n (by omega),wE (i:=e+4) (by omega) n (by omega)]
  by_cases h1:n≤1024∧e+8+n≤b.length
  · have c1:((decide ((n:Int)≤1024))&&(decide (((e+8+n:Nat):Int)≤(b.length:Int))))=true:=by simp; omega
    have hv1:=hvl h1.1 h1.2
    rw [if_pos c1,need_ok F _ c1,Option.bind_some,sub_sl b (e+2) (e+4) (by omega) (by omega),Option.bind_some,sub_sl b (e+4) (e+4+n) (by omega) (by omega),Option.bind_some,hK,Option.bind_some,hv,join_one F v (by omega) (by omega),Option.bind_some]
    unfold flash_readP_j1 flash_readP_j2
    rw [wE8 e (by omega),wE (i:=e+8) (by omega) n (by omega),wu16_id (by omega) (by omega),sub_sl b e (e+8+n) (by omega) (by omega),Option.bind_some,hw]
    show (flash_record F (K:Int) v).bind _=_
    rw [record_eq F (K:Int) v (by omega) (by omega) hvb (by omega) (by omega) hFF,Option.bind_some,equal_eq F _ _ (by rw [recB_len]; omega) (by omega),Option.bind_some]
    by_cases hr:recB K v=w
    · have cr:decide (recB K v=w)=true:=dt hr
      rw [if_pos cr,need_ok F _ cr,Option.bind_some,if_pos ⟨h1.1,h1.2,hr⟩]
    · rw [if_neg (df hr),if_neg fun h=>hr h.2.2]
  · have c1:¬ ((decide ((n:Int)≤1024))&&(decide (((e+8+n:Nat):Int)≤(b.length:Int))))=true:=by simp; omega
    rw [if_neg c1,if_neg fun h=>h1 ⟨h.1,h.2.1⟩]
theorem readP_end (F:Nat) (b:List Int) (e:Nat) (hl:b.length≤65536) (he:e≤b.length) (h8:¬ e+8≤b.length):flash_readP F b e=some none:=by
  unfold flash_readP
  rw [wE8 e (by omega),len_nat,if_neg (df (by omega))]
theorem recs_core (F:Nat) (b:List Int) (l:List T_Item) (e n K:Nat) (v w:List Int) (hl:b.length≤65536) (h8:e+8≤b.length) (hF:200000<F) (hFF:F≤FF)
    (hV:wirelessref02_Value F (sl b e (e+2))=some (n:Int)) (hn:n<65536) (hK:wirelessref02_Value F (sl b (e+2) (e+4))=some (K:Int)) (hk:K<65536)
    (hv:sl b (e+4) (e+4+n)=v) (hw:sl b e (e+8+n)=w) (hvb:∀x∈v,Byte x) (hwb:∀x∈w,Byte x) (hvl:n≤1024→e+8+n≤b.length→v.length=n) :
    wirelessref39_records_l1 F b l e=if n≤1024∧e+8+n≤b.length∧recB K v=w then (wirelessref39_Set F l K v).bind fun m=>some (.next (m,((e+8+n:Nat):Int))) else some (.done (.inr (l,(e:Int)))):=by
  unfold wirelessref39_records_l1
  rw [len_nat,wS e b.length (by omega) (by omega),if_pos (dt (by omega)),wE2 e (by omega),wE4 e (by omega),sub_sl b e (e+2) (by omega) (by omega),Option.bind_some,hV,Option.bind_some,wN n (by omega),wE8 n (by omega),wE (i:=e+4) (by omega) n (by omega),wE (i:=e) (by omega) n (by omega),wE8 (e+n) (by omega)]
  by_cases h1:n≤1024∧e+8+n≤b.length
  · have c1:¬ ((decide ((n:Int) > 1024))||(decide (((n+8:Nat):Int) > ((b.length - e:Nat):Int))))=true:=by simp; omega
    have hv1:=hvl h1.1 h1.2
    have hrb:∀x∈recB (K:Int) v,Byte x:=seal_byte (rec_in _ hvb)
    rw [if_neg c1,sub_sl b (e+2) (e+4) (by omega) (by omega),Option.bind_some,hK,Option.bind_some,sub_sl b (e+4) (e+4+n) (by omega) (by omega),Option.bind_some,hv,app_cat (by simp; omega),Option.bind_some,List.nil_append,show e+n+8=e+8+n from by omega,sub_sl b e (e+8+n) (by omega) (by omega),Option.bind_some,hw,wu16_id (by omega) (by omega),rrecord_eq F (K:Int) v (by omega) (by omega) hvb (by omega) (by omega) hFF,Option.bind_some]
    unfold wirelessref39_records_j2
    rw [wN n (by omega),wE (i:=e) (by omega) n (by omega),wE8 (e+n) (by omega),wu16_id (by omega) (by omega),show e+n+8=e+8+n from by omega,str_bytes hwb,str_bytes hrb]
    by_cases hr:recB K v=w
    · rw [if_neg (by rw [hr]; simp),if_pos ⟨h1.1,h1.2,hr⟩]
    · rw [if_pos (by simp; exact fun h=>hr h.symm),if_neg fun h=>hr h.2.2]
  · have c1:((decide ((n:Int) > 1024))||(decide (((n+8:Nat):Int) > ((b.length - e:Nat):Int))))=true:=by simp; omega
    rw [if_pos c1,if_neg fun h=>h1 ⟨h.1,h.2.1⟩]
theorem recs_end (F:Nat) (b:List Int) (l:List T_Item) (e:Nat) (hl:b.length≤65536) (he:e≤b.length) (h8:¬ e+8≤b.length):wirelessref39_records_l1 F b l e=some (.done (.inl (l,(e:Int)))):=by
  unfold wirelessref39_records_l1
  rw [len_nat,wS e b.length (by omega) (by omega),if_neg (df (by omega))]
theorem contents_eq (F:Nat) (b:List Int) (hb:∀x∈b,Byte x) (hl:b.length≤65536) (h10:10≤b.length) (hF:200000<F) (hFF:F≤FF) :
    ∃l e,flash_contents F b=some (l,((e:Nat):Int))∧wirelessref39_records F b=some (l,(e:Int))∧Lst l∧e≤b.length∧10≤e∧l.length≤e:=by
  unfold flash_contents wirelessref39_records
  obtain⟨o1,o2,h1,h2,⟨l,e,rfl,hL,he,h10',hle⟩,h3⟩:=iter_sim (b1:=fun s:List T_Item×Int=>flash_contents_l1 F b s.1 s.2) (b2:=fun s:List T_Item×Int=>wirelessref39_records_l1 F b s.1 s.2)
    (fun s t=>s=t∧∃l,∃e:Nat,s=(l,(e:Int))∧Lst l∧e≤b.length∧10≤e∧l.length≤e)
    (fun o p=>(∃l,∃e:Nat,o=(l,(e:Int))∧Lst l∧e≤b.length∧10≤e∧l.length≤e)∧(p = .inl o∨p = .inr o)) (fun s=>b.length - s.2.toNat) (by
    rintro _ _ ⟨rfl,l,e,rfl,hL,he,h10',hle⟩
    show (∃t1 t2,flash_contents_l1 F b l (e:Int)=some (.next t1)∧wirelessref39_records_l1 F b l (e:Int)=some (.next t2)∧_)∨∃o1 o2,flash_contents_l1 F b l (e:Int)=some (.done o1)∧wirelessref39_records_l1 F b l (e:Int)=some (.done o2)∧_
    unfold flash_contents_l1
    by_cases h8:e+8≤b.length
    · obtain⟨n,hn,hn1⟩:∃n:Nat,num (sl b e (e+2))=(n:Int)∧n<65536:=by
        obtain⟨h0,h1⟩:=num2 hb (i:=e) (by omega)
        generalize num (sl b e (e+2))=z at *
        exact⟨z.toNat,by omega,by omega⟩
      obtain⟨K,hk,hk1⟩:∃n:Nat,num (sl b (e+2) (e+4))=(n:Int)∧n<65536:=by
        obtain⟨h0,h1⟩:=num2 hb (i:=e+2) (by omega)
        rw [show e+2+2=e+4 from rfl] at h0 h1
        generalize num (sl b (e+2) (e+4))=z at *
        exact⟨z.toNat,by omega,by omega⟩
      have l2:(sl b e (e+2)).length=2:=by rw [sl_len (by omega) (by omega)]; omega
      have l3:(sl b (e+2) (e+4)).length=2:=by rw [sl_len (by omega) (by omega)]; omega
      have v1:flash_value F (sl b e (e+2))=some (n:Int):=by rw [value_eq F _ (sl_byte hb _ _) (by omega) (by omega),hn]
      have v2:flash_value F (sl b (e+2) (e+4))=some (K:Int):=by rw [value_eq F _ (sl_byte hb _ _) (by omega) (by omega),hk]
      have v3:wirelessref02_Value F (sl b e (e+2))=some (n:Int):=by rw [chunk_r F _ (sl_byte hb _ _) (by omega) (by omega),hn]
      have v4:wirelessref02_Value F (sl b (e+2) (e+4))=some (K:Int):=by rw [chunk_r F _ (sl_byte hb _ _) (by omega) (by omega),hk]
      clear hn hk l2 l3
      have hvb:=sl_byte hb (e+4) (e+4+n)
      have hwb:=sl_byte hb e (e+8+n)
      have hvl:n≤1024→e+8+n≤b.length→(sl b (e+4) (e+4+n)).length=n:=fun _ _=>by rw [sl_len (by omega) (by omega)]; omega
      have c1:=readP_core F b e n K _ _ hl h8 hF hFF v1 hn1 v2 hk1 rfl rfl hvb hvl
      have c2:=recs_core F b l e n K _ _ hl h8 hF hFF v3 hn1 v4 hk1 rfl rfl hvb hwb hvl
      rw [c1,c2,Option.bind_some]
      by_cases hq:n≤1024∧e+8+n≤b.length∧recB K (sl b (e+4) (e+4+n))=sl b e (e+8+n)
      · rw [if_pos hq,if_pos hq]
        have hvl2:=hvl hq.1 hq.2.1
        obtain⟨m,m1,m2,m3,m4⟩:=set_both F l ⟨K,sl b (e+4) (e+4+n)⟩ hL (by simp only; omega) (by simp only; omega) hvb (by simp only; omega) (by omega) hF
        simp only at m1 m2
        refine .inl ⟨(m,((e+8+n:Nat):Int)),(m,((e+8+n:Nat):Int)),?_,?_,⟨rfl,m,e+8+n,rfl,m3,hq.2.1,by omega,by omega⟩,by simp only; omega⟩
        · simp only [m1,Option.bind_some]
        · rw [m2,Option.bind_some]
      · rw [if_neg hq,if_neg hq]
        exact .inr ⟨_,_,rfl,rfl,⟨l,e,rfl,hL,he,h10',hle⟩,.inr rfl⟩
    · rw [readP_end F b e hl he h8,recs_end F b l e hl he h8]
      exact .inr ⟨_,_,rfl,rfl,⟨l,e,rfl,hL,he,h10',hle⟩,.inl rfl⟩) F ([],10) ([],10) ⟨rfl,[],10,rfl,lst_nil,h10,by omega,by simp⟩ (by simp only; omega)
  refine ⟨l,e,h1,?_,hL,he,h10',hle⟩
  rw [h2,Option.bind_some]
  rcases h3 with rfl | rfl <;> rfl
theorem copied_id (F:Nat) (f:T_Flash) (h1:f.Banks.1.length≤65536) (h2:f.Banks.2.length≤65536) (hF:1<F):flash_copied F f=some f:=by
  unfold flash_copied
  rw [join_one F _ hF (by omega),join_one F _ hF (by omega)]
  rfl
theorem copy_id (F:Nat) (f:T_Flash) (h1:f.Banks.1.length≤65536) (h2:f.Banks.2.length≤65536):wirelessref39_Copy F f=some f:=by
  unfold wirelessref39_Copy
  rw [app_cat (by simp; omega),app_cat (by simp; omega)]
  rfl
theorem num4 {b:List Int} (hb:∀x∈b,Byte x) (h:10≤b.length):∃n:Nat,num (sl b 2 6)=(n:Int)∧n<4294967296:=by
  have h1:=num_lt (sl_byte hb 2 6)
  have h0:=num_nonneg (sl_byte hb 2 6)
  rw [sl_len (by omega) (by omega)] at h1
  rw [show (256:Int) ^ (6 - 2)=4294967296 from rfl] at h1
  exact⟨(num (sl b 2 6)).toNat,(Int.toNat_of_nonneg h0).symm,by omega⟩
theorem count_both (F:Nat) (b:List Int) (hb:∀x∈b,Byte x) (hF:200000<F) (hFF:F≤FF):∃c:Int,flash_count F b=some c∧wirelessref39_count F b=some c∧-1≤c∧c<4294967296∧(0≤c→10≤b.length):=by
  unfold flash_count wirelessref39_count
  rw [len_nat]
  by_cases h:10≤b.length
  · have c0:¬ decide ((b.length:Int)<10)=true:=df (by omega)
    rw [if_neg c0,if_neg c0]
    have s1:sub b 2 6=some (sl b 2 6):=sub_sl b 2 6 (by omega) (by omega)
    have s2:sub b 0 10=some (sl b 0 10):=sub_sl b 0 10 (by omega) (by omega)
    obtain⟨n,hn,hn1⟩:=num4 hb h
    have l2:(sl b 2 6).length=4:=sl_len (by omega) (by omega)
    have v1:flash_value F (sl b 2 6)=some (n:Int):=by rw [value_eq F _ (sl_byte hb _ _) (by omega) (by omega),hn]
    have v2:wirelessref02_Value F (sl b 2 6)=some (n:Int):=by rw [chunk_r F _ (sl_byte hb _ _) (by omega) (by omega),hn]
    clear hn l2
    have hw:w64 (n:Int)=(n:Int):=w64_id (by omega) (by omega)
    rw [s1,Option.bind_some,Option.bind_some,v1,v2,Option.bind_some,Option.bind_some,s2,Option.bind_some,Option.bind_some,hw,header_eq F n (by omega) (by omega) (by omega) hFF,rheader_eq F n (by omega) (by omega) (by omega) hFF,Option.bind_some,Option.bind_some,equal_eq F _ _ (by rw [headB_len]; omega) (by omega),Option.bind_some]
    unfold flash_count_j1 wirelessref39_count_j1
    have hhb:∀x∈headB (n:Int),Byte x:=seal_byte (head_in _)
    rw [str_bytes (sl_byte hb 0 10),str_bytes hhb,hw]
    by_cases hq:headB (n:Int)=sl b 0 10
    · refine ⟨n,?_,?_,by omega,by omega,fun _=>h⟩
      · rw [if_neg (by simp [hq])]
      · rw [if_neg (by simp [hq])]
    · refine ⟨-1,?_,?_,by omega,by omega,fun h=>by omega⟩
      · rw [if_pos (by simp [hq])]
      · rw [if_pos (by simp; exact fun h=>hq h.symm)]
  · have c0:decide ((b.length:Int)<10)=true:=dt (by omega)
    rw [if_pos c0,if_pos c0]
    exact⟨-1,rfl,rfl,by omega,by omega,fun h=>by omega⟩
theorem upd_nat {l:List Int} {i:Nat} {x:Int} (h:i<l.length):upd l (i:Int) x=some (l.set i x):=by
  unfold upd
  rw [if_pos (by omega)]
  rfl
theorem set_rep:∀(k i:Nat),i<k→(List.replicate i (255:Int)++List.replicate (k - i) 0).set i 255=List.replicate (i+1) 255++List.replicate (k - (i+1)) 0:=fun k i h=>by
  rw [List.set_append_right _ _ (by simp),List.length_replicate,Nat.sub_self,show k - i=(k - (i+1))+1 from by omega,List.replicate_succ,List.set_cons_zero,List.replicate_succ',List.append_assoc]
  rfl
theorem rerased_eq (F:Nat) (k:Nat) (hk:k≤65536) (hF:200000<F):wirelessref39_erased F (k:Int)=some (List.replicate k 255):=by
  unfold wirelessref39_erased
  rw [mk_small (by omega) (by decide),Option.bind_some]
  have h:iter (fun s:List Int×Int=>wirelessref39_erased_l1 F (k:Int) s.1 s.2) F (List.replicate k 0,0)=some (List.replicate k 255):=iter_count (body:=fun s:List Int×Int=>wirelessref39_erased_l1 F (k:Int) s.1 s.2) (fun i=>(List.replicate i 255++List.replicate (k - i) 0,(i:Int))) k (List.replicate k 255) (by
    intro i hi
    show wirelessref39_erased_l1 F (k:Int) (List.replicate i 255++List.replicate (k - i) 0) (i:Int)=_
    unfold wirelessref39_erased_l1
    have hlen:(List.replicate i (255:Int)++List.replicate (k - i) 0).length=k:=by simp; omega
    have hx:=List.getElem?_eq_getElem (l:=List.replicate i (255:Int)++List.replicate (k - i) 0) (i:=i) (by omega)
    rw [if_pos (dt (by omega)),idx_nat,hx,Option.bind_some,upd_nat (by omega),Option.bind_some,set_rep k i hi,w64_nat i (by omega)]) (by
    show wirelessref39_erased_l1 F (k:Int) _ ((k:Nat):Int)=_
    unfold wirelessref39_erased_l1
    rw [if_neg (df (by omega)),Nat.sub_self,List.replicate_zero,List.append_nil]) F 0 (by omega) (by omega)
  rw [h]
  rfl
theorem rep_any:∀(l:List Int),(l == List.replicate l.length 255) = !(l.any fun x=>x != 255)
  | []=>rfl
  | x::l=>by
    have ih:=rep_any l
    rw [List.length_cons,List.replicate_succ,List.any_cons]
    show (x == 255&&l == List.replicate l.length 255)=_
    rw [ih]
    cases h:(x == 255) <;> simp_all
theorem tail_loop (F:Nat) (f:T_Flash) (q:List T_Item×Int) (l:List Int) (hl:l.length≤65536) (hF:200000<F):iter (fun s:Int=>flash_Mount_l1 F f q l s) F 0=some (if (l.any fun x=>x != 255)=true then len f.Banks.1 else q.2):=by
  have:=iter_any (body:=fun s:Int=>flash_Mount_l1 F f q l s) (l:=l) (p:=fun x=>x != 255) (o:=len f.Banks.1) (e:=q.2) (by
    intro i x hx
    have hi:i<l.length:=(List.getElem?_eq_some_iff.1 hx).1
    show flash_Mount_l1 F f q l (i:Int)=_
    unfold flash_Mount_l1
    rw [if_pos (dt (by rw [len_nat]; omega)),idx_nat,hx,Option.bind_some,w64_nat i (by omega)]
    by_cases hq:(x != 255)=true
    · rw [if_pos hq,if_pos hq]
    · rw [if_neg hq,if_neg hq]) (by
    show flash_Mount_l1 F f q l _=_
    unfold flash_Mount_l1
    rw [if_neg (df (by rw [len_nat]; omega))]) F 0 (by omega) (by omega)
  rw [List.drop_zero] at this
  exact this
theorem rep_byte (k:Nat):∀x∈List.replicate k (255:Int),Byte x:=fun x hx=>by
  rw [(List.mem_replicate.1 hx).2]
  exact⟨by decide,by decide⟩
theorem tail_eq {b:List Int} (hb:∀x∈b,Byte x) (e:Nat) (he:e≤b.length):(str (sl b e b.length) == str (List.replicate (b.length - e) 255)) = !((sl b e b.length).any fun x=>x != 255):=by
  rw [str_bytes (sl_byte hb _ _),str_bytes (rep_byte _),← sl_len he (Nat.le_refl _)]
  exact rep_any _
theorem m_l2:flash_Mount_l2=flash_Mount_l1:=rfl
structure Mtd (f:T_Flash) (s:T_Store):Prop where
  fl:s.Flash=f
  bk:s.Bank=0∨s.Bank=1
  e0:0≤s.End
  e1:s.End≤f.Banks.1.length
  c0:0≤s.Count
  c1:s.Count<4294967296
  it:Lst s.Items
  il:s.Items.length≤65536
  sz:f.Banks.1.length=f.Banks.2.length∧64≤f.Banks.1.length∧f.Banks.1.length≤65536
theorem bank_both (F:Nat) (f:T_Flash) (b:List Int) (hb:∀x∈b,Byte x) (hN:b.length=f.Banks.1.length) (hl:b.length≤65536) (h10:10≤b.length) (hF:200000<F) (hFF:F≤FF) :
    ∃l,∃e:Nat,∃E:Int,flash_contents F b=some (l,(e:Int))∧wirelessref39_records F b=some (l,(e:Int))∧sub b (e:Int) (len b)=some (sl b e b.length)∧
      iter (fun s:Int=>flash_Mount_l1 F f (l,(e:Int)) (sl b e b.length) s) F 0=some E∧wirelessref39_erased F (w64 (len f.Banks.1 - (e:Int)))=some (List.replicate (b.length - e) 255)∧
      (E=if (str (sl b e b.length) == str (List.replicate (b.length - e) 255))=true then (e:Int) else len f.Banks.1)∧0≤E∧E≤b.length∧Lst l∧l.length≤65536:=by
  obtain⟨l,e,h1,h2,hL,he,h10',hle⟩:=contents_eq F b hb hl h10 hF hFF
  refine ⟨l,e,(if ((sl b e b.length).any fun x=>x != 255)=true then len f.Banks.1 else (e:Int)),h1,h2,?_,?_,?_,?_,?_,?_,hL,by omega⟩
  · exact sub_sl b e b.length he (Nat.le_refl _)
  · exact tail_loop F f (l,(e:Int)) _ (by rw [sl_len he (Nat.le_refl _)]; omega) hF
  · rw [len_nat,← hN,wS e b.length he (by omega),rerased_eq F _ (by omega) hF]
  · rw [tail_eq hb e he]
    cases ((sl b e b.length).any fun x=>x != 255) <;> rfl
  · rw [len_nat]; split <;> omega
  · rw [len_nat]; split <;> omega
theorem mount_both (F:Nat) (f:T_Flash) (hb1:∀x∈f.Banks.1,Byte x) (hb2:∀x∈f.Banks.2,Byte x) (hF:200000<F) (hFF:F≤FF) :
    ∃s e,flash_Mount F f=some (s,e)∧wirelessref39_Mount F f=some (s,e)∧Lst s.Items∧(e=0∧Mtd f s∨e=5∧s.Items=[]∧¬ (f.Banks.1.length=f.Banks.2.length∧64≤f.Banks.1.length∧f.Banks.1.length≤65536)):=by
  unfold flash_Mount wirelessref39_Mount flash_fits
  rw [len_nat,len_nat]
  by_cases hv:f.Banks.1.length=f.Banks.2.length∧64≤f.Banks.1.length∧f.Banks.1.length≤65536
  · have hv':=hv
    obtain⟨v1,v2,v3⟩:=hv
    have q1:¬ (((f.Banks.2.length:Int)) != (f.Banks.1.length:Int))=true:=by simp; omega
    have q2:¬ ((((f.Banks.1.length:Int) != (f.Banks.2.length:Int))||(decide ((f.Banks.1.length:Int)<64)))||(decide ((f.Banks.1.length:Int) > 65536)))=true:=by simp; omega
    have q3:(!((decide ((f.Banks.1.length:Int)≥64))&&(decide ((f.Banks.1.length:Int)≤65536))))=false:=by simp; omega
    rw [if_neg q1,if_neg q2,Option.bind_some,q3,Option.bind_some,if_neg (by decide),copied_id F f (by omega) (by omega) (by omega),copy_id F f (by omega) (by omega),Option.bind_some,Option.bind_some]
    obtain⟨a,a1,a2,a3,a4,a5⟩:=count_both F f.Banks.1 hb1 hF hFF
    obtain⟨b,b1,b2,b3,b4,b5⟩:=count_both F f.Banks.2 hb2 hF hFF
    rw [a1,a2,b1,b2,Option.bind_some,Option.bind_some,Option.bind_some,Option.bind_some]
    unfold flash_Mount_j1 wirelessref39_Mount_j1
    by_cases hz:a<0∧b<0
    · rw [if_neg (df (by omega)),if_pos (by simp; omega)]
      unfold flash_Mount_j2
      rw [if_pos (show ((0:Int) == 0)=true from rfl),if_pos (dt hz.1)]
      exact⟨_,_,rfl,rfl,lst_nil,.inl ⟨rfl,⟨rfl,.inl rfl,by rw [len_nat]; simp only; omega,by rw [len_nat]; simp only; omega,by simp,by simp,lst_nil,by simp,hv'⟩⟩⟩
    · rw [if_neg (show ¬ ((decide (a<0))&&(decide (b<0)))=true by simp; omega)]
      unfold flash_Mount_j2 wirelessref39_Mount_j2 flash_Mount_j3
      by_cases hab:b > a
      · rw [if_pos (dt hab),if_pos (dt hab)]
        rw [if_neg (by decide),if_pos (by decide),if_neg (df (by omega)),if_neg (by decide),if_pos (by decide),if_neg (by decide),if_pos (by decide)]
        obtain⟨l,e,E,h1,h2,h3,h4,h5,h6,h7,h8,h9,h10⟩:=bank_both F f f.Banks.2 hb2 (by omega) (by omega) (by omega) hF hFF
        rw [h1,h2,Option.bind_some,Option.bind_some]
        simp only
        rw [h3,Option.bind_some,Option.bind_some,m_l2,h4,h5,Option.bind_some,Option.bind_some]
        unfold flash_Mount_j5 wirelessref39_Mount_j6 wirelessref39_Mount_j5
        refine ⟨T_Store.mk f 1 b E l,0,rfl,?_,h9,.inl ⟨rfl,⟨rfl,.inr rfl,h7,by simp only; omega,by simp only; omega,by simp only; omega,h9,h10,hv'⟩⟩⟩
        rw [h6]
        split <;> rfl
      · rw [if_neg (df hab),if_neg (df hab)]
        rw [if_pos (by decide),if_neg (df (by omega)),if_pos (by decide),if_pos (by decide)]
        obtain⟨l,e,E,h1,h2,h3,h4,h5,h6,h7,h8,h9,h10⟩:=bank_both F f f.Banks.1 hb1 rfl (by omega) (by omega) hF hFF
        rw [h1,h2,Option.bind_some,Option.bind_some]
        simp only
        rw [h3,Option.bind_some,Option.bind_some,h4,h5,Option.bind_some,Option.bind_some]
        unfold flash_Mount_j4 wirelessref39_Mount_j4 wirelessref39_Mount_j3
        refine ⟨T_Store.mk f 0 a E l,0,rfl,?_,h9,.inl ⟨rfl,⟨rfl,.inl rfl,h7,by simp only; omega,by simp only; omega,by simp only; omega,h9,h10,hv'⟩⟩⟩
        rw [h6]
        split <;> rfl
  · have q2:((((f.Banks.1.length:Int) != (f.Banks.2.length:Int))||(decide ((f.Banks.1.length:Int)<64)))||(decide ((f.Banks.1.length:Int) > 65536)))=true:=by simp; omega
    rw [if_pos q2]
    have q1:((if (((f.Banks.2.length:Int)) != (f.Banks.1.length:Int))=true then some true else (some ((decide ((f.Banks.1.length:Int)≥64))&&(decide ((f.Banks.1.length:Int)≤65536)))).bind fun x=>some (!x)):Option Bool)=some true:=by
      by_cases h:f.Banks.2.length=f.Banks.1.length
      · rw [if_neg (by simp; omega),Option.bind_some]
        congr 1
        simp
        omega
      · rw [if_pos (by simp; omega)]
    rw [q1,Option.bind_some,if_pos rfl]
    exact⟨_,_,rfl,rfl,lst_nil,.inr ⟨rfl,rfl,hv⟩⟩
def got:Option T_Item→List Int×Bool
  | none=>([],false)
  | some x=>(x.Value,true)
theorem rget_eq (F:Nat) (s:T_Store) (k:Int) (hs:∀x∈s.Items,x.Value.length≤100000) (hl:s.Items.length≤100000) (hF:200000<F):wirelessref39_Get F s k=some (got (s.Items.find? fun x=>x.Key == k)):=by
  have key:∀(f i:Nat),i≤s.Items.length→s.Items.length - i<f→iter (fun z:Int=>wirelessref39_Get_l1 F s k z) f (i:Int)=some (match (s.Items.drop i).find? (fun x=>x.Key == k) with | none=>.inl () | some x=>.inr (x.Value,true)):=by
    intro f
    induction f with
    | zero=>intro i _ h; omega
    | succ f ih=>
      intro i hi hf
      by_cases hin:i<s.Items.length
      · have hx:s.Items[i]? = some s.Items[i]:=List.getElem?_eq_getElem hin
        have hdr:s.Items.drop i=s.Items[i]::s.Items.drop (i+1):=List.drop_eq_getElem_cons hin
        have hvl:=hs _ (List.getElem_mem hin)
        generalize s.Items[i]=x at hx hdr hvl
        have hb:wirelessref39_Get_l1 F s k (i:Int)=some (if (x.Key == k)=true then .done (.inr (x.Value,true)) else .next ((i+1:Nat):Int)):=by
          unfold wirelessref39_Get_l1
          rw [if_pos (dt (by rw [len_nat]; omega)),idx_nat,hx,Option.bind_some,Option.bind_some,app_cat (by simp; omega),Option.bind_some,List.nil_append,w64_nat i (by omega)]
          split <;> rfl
        by_cases hp:(x.Key == k)=true
        · rw [if_pos hp] at hb
          rw [iter_stop hb,hdr,List.find?_cons,hp]
        · rw [if_neg hp] at hb
          rw [iter_step hb,ih (i+1) hin (by omega),hdr,List.find?_cons,(Bool.not_eq_true _).mp hp]
      · have:i=s.Items.length:=by omega
        subst this
        rw [iter_stop (o:=.inl ()) (by unfold wirelessref39_Get_l1; rw [if_neg (df (by rw [len_nat]; omega))]),List.drop_length]
        rfl
  unfold wirelessref39_Get
  have:=key F 0 (by omega) (by omega)
  rw [show ((0:Nat):Int)=0 from rfl,List.drop_zero] at this
  rw [this,Option.bind_some]
  cases s.Items.find? fun x=>x.Key == k <;> rfl
theorem get_eq (F:Nat) (s:T_Store) (k:Int) (h:Lst s.Items) (hl:s.Items.length≤100000) (hF:200000<F):flash_Get F s k=some (got (s.Items.find? fun x=>x.Key == k)):=by
  unfold flash_Get
  obtain⟨ho,hok⟩:=h
  generalize s.Items=l at *
  obtain⟨a,b,rfl,ha,hb⟩:=split_at k l ho
  rw [place_eq F a b k ha hb hl hF,Option.bind_some]
  have hna:a.find? (fun x=>x.Key == k)=none:=List.find?_eq_none.2 fun x hx=>by have:=ha x hx; simp; omega
  rw [List.find?_append,hna,Option.none_or]
  cases b with
  | nil=>rfl
  | cons c b=>
    have hc:=(hok c (by simp)).vl
    by_cases hk:c.Key=k
    · have hq:(c.Key == k)=true:=by simp [hk]
      rw [List.find?_cons,hq]
      show (if (!(c.Key == k))=true then _ else _)=_
      rw [hq,if_neg (by decide)]
      simp only
      rw [idx_nat,List.getElem?_append_right (Nat.le_refl _),Nat.sub_self,List.getElem?_cons_zero,Option.bind_some,join_one F _ (by omega) (by omega),Option.bind_some]
      rfl
    · have hq:(c.Key == k)=false:=by simp [hk]
      rw [List.find?_cons,hq]
      show (if (!(c.Key == k))=true then _ else _)=_
      rw [hq,if_pos (by decide)]
      have hbb:b.find? (fun x=>x.Key == k)=none:=List.find?_eq_none.2 fun x hx=>by
        have h1:=(List.pairwise_cons.1 (List.pairwise_append.1 ho).2.1).1 x hx
        have h2:=hb c (by simp)
        simp
        omega
      rw [hbb]
      rfl
theorem iand8 (x y:Int):Byte (iand .u8 x y):=by
  unfold iand
  rw [wrap_u8]
  unfold wu8
  exact⟨Int.emod_nonneg _ (by decide),Int.emod_lt_of_pos _ (by decide)⟩
theorem set_byte {l:List Int} (h:∀x∈l,Byte x) (i:Nat) {y:Int} (hy:Byte y):∀x∈l.set i y,Byte x:=fun x hx=>by
  rcases List.mem_or_eq_of_mem_set hx with hx | rfl
  · exact h x hx
  · exact hy
def eff (n all:Int):Int:=if n<0∨n > all then all else n
def I64 (x:Int):Prop:=-9223372036854775808≤x∧x<9223372036854775808
theorem write1 (F:Nat) (w:T_Write) (n:Int) (b:List Int) (he:w.Erase=false) (hB:w.Bytes.length≤65536) (hb:b.length≤65536) (ho:I64 w.Offset) (hF:200000<F) :
    ∃o,iter (fun s:List Int×Int=>flash_Apply_l1 F w (eff n w.Bytes.length) s.1 s.2) F (b,0)=some o∧iter (fun s:List Int×Int=>wirelessref39_Apply_l1 F w n s.1 s.2) F (b,0)=some o∧o.length=b.length∧((∀x∈b,Byte x)→∀x∈o,Byte x):=by
  obtain⟨o0,o1⟩:=ho
  obtain⟨o1,o2,h1,h2,h3,h4,h5⟩:=iter_sim (b1:=fun s:List Int×Int=>flash_Apply_l1 F w (eff n w.Bytes.length) s.1 s.2) (b2:=fun s:List Int×Int=>wirelessref39_Apply_l1 F w n s.1 s.2)
    (fun s t=>s=t∧(s.1.length=b.length∧((∀x∈b,Byte x)→∀x∈s.1,Byte x))∧∃i:Nat,s.2=(i:Int)∧i≤w.Bytes.length) (fun o p=>o=p∧o.length=b.length∧((∀x∈b,Byte x)→∀x∈o,Byte x)) (fun s=>w.Bytes.length - s.2.toNat) (by
    rintro⟨l,at_⟩ _ ⟨rfl,⟨hl,hby⟩,i,hi,hil⟩
    simp only at hl hi hby
    subst hi
    show (∃t1 t2,flash_Apply_l1 F w (eff n w.Bytes.length) l (i:Int)=some (.next t1)∧wirelessref39_Apply_l1 F w n l (i:Int)=some (.next t2)∧_)∨∃o1 o2,flash_Apply_l1 F w (eff n w.Bytes.length) l (i:Int)=some (.done o1)∧wirelessref39_Apply_l1 F w n l (i:Int)=some (.done o2)∧_
    unfold flash_Apply_l1 wirelessref39_Apply_l1 flash_Apply_j4 wirelessref39_Apply_j4 wirelessref39_Apply_j3
    have hn:=len_nat l
    have hnB:=len_nat w.Bytes
    by_cases hc:i<w.Bytes.length∧(n<0∨(i:Int)<n)
    · have hlt:(i:Int)<eff n w.Bytes.length:=by
        unfold eff
        split <;> omega
      have hr:((decide ((i:Int)<(len w.Bytes)))&&((decide (n<0))||(decide ((i:Int)<n))))=true:=by simp; omega
      rw [if_pos (dt hlt),he,if_neg (by decide:¬ (false=true)),if_pos hr]
      have hx:w.Bytes[i]? = some w.Bytes[i]:=List.getElem?_eq_getElem hc.1
      have hw1:=w64_nat i (by omega)
      by_cases ha:0≤w.Offset∧w.Offset<(l.length:Int) - i
      · have hwo:w64 (w.Offset+i)=w.Offset+i:=w64_id (by omega) (by omega)
        have hwl:w64 (len l - i)=(l.length:Int) - i:=by rw [hn]; exact w64_id (by omega) (by omega)
        obtain⟨j,hj⟩:=Int.eq_ofNat_of_zero_le (a:=w.Offset+i) (by omega)
        have hjl:j<l.length:=by omega
        have hy:l[j]? = some l[j]:=List.getElem?_eq_getElem hjl
        have q1:(((decide (w.Offset<(len l)))&&(decide ((j:Int)≥0)))&&(decide ((j:Int)<(len l))))=true:=by simp; omega
        have q2:((decide (w.Offset≥0))&&(decide (w.Offset<(l.length:Int) - i)))=true:=by simp; omega
        have q3:∀z:List Int,¬ (((decide (w.Offset<0))&&(decide ((j:Int)≥0)))&&(decide ((j:Int)<(len z))))=true:=fun z=>by simp; omega
        rw [hwo,hwl,hj,if_pos q1,if_pos q2]
        simp only [idx_nat,hx,hy,Option.bind_some,upd_nat hjl]
        rw [if_neg (q3 _),hw1]
        exact .inl ⟨_,_,rfl,rfl,⟨rfl,⟨by simp [hl],fun hq=>set_byte (hby hq) _ (iand8 _ _)⟩,i+1,rfl,by omega⟩,by simp only; omega⟩
      · by_cases hd:w.Offset<0∧0≤w.Offset+i∧w.Offset+i<l.length
        · have hwo:w64 (w.Offset+i)=w.Offset+i:=w64_id (by omega) (by omega)
          obtain⟨j,hj⟩:=Int.eq_ofNat_of_zero_le (a:=w.Offset+i) (by omega)
          have hjl:j<l.length:=by omega
          have hy:l[j]? = some l[j]:=List.getElem?_eq_getElem hjl
          have q1:(((decide (w.Offset<(len l)))&&(decide ((j:Int)≥0)))&&(decide ((j:Int)<(len l))))=true:=by simp; omega
          have q2:¬ ((decide (w.Offset≥0))&&(decide (w.Offset<w64 (len l - i))))=true:=by
            rw [decide_eq_false (by omega:¬ w.Offset≥0)]
            simp
          have q3:(((decide (w.Offset<0))&&(decide ((j:Int)≥0)))&&(decide ((j:Int)<(len l))))=true:=by simp; omega
          rw [hwo,hj,if_pos q1,if_neg q2,if_pos q3]
          simp only [idx_nat,hx,hy,Option.bind_some,upd_nat hjl]
          rw [hw1]
          exact .inl ⟨_,_,rfl,rfl,⟨rfl,⟨by simp [hl],fun hq=>set_byte (hby hq) _ (iand8 _ _)⟩,i+1,rfl,by omega⟩,by simp only; omega⟩
        · have hwl:w64 (len l - i)=(l.length:Int) - i:=by rw [hn]; exact w64_id (by omega) (by omega)
          have hno:¬ (((decide (w.Offset<(len l)))&&(decide ((w64 (w.Offset+i))≥0)))&&(decide ((w64 (w.Offset+i))<(len l))))=true:=by
            by_cases h0:w.Offset<len l
            · rw [w64_id (x:=w.Offset+i) (by omega) (by omega)]
              simp
              omega
            · simp [h0]
          have hno2:¬ (((decide (w.Offset<0))&&(decide ((w64 (w.Offset+i))≥0)))&&(decide ((w64 (w.Offset+i))<(len l))))=true:=by
            by_cases h0:w.Offset<0
            · rw [w64_id (x:=w.Offset+i) (by omega) (by omega)]
              simp
              omega
            · simp [h0]
          have hno3:¬ ((decide (w.Offset≥0))&&(decide (w.Offset<(l.length:Int) - i)))=true:=by simp; omega
          rw [if_neg hno,hwl,if_neg hno3,if_neg hno2,hw1]
          exact .inl ⟨_,_,rfl,rfl,⟨rfl,⟨hl,hby⟩,i+1,rfl,by omega⟩,by simp only; omega⟩
    · have hlt:¬ (i:Int)<eff n w.Bytes.length:=by
        unfold eff
        split <;> omega
      have hr:¬ ((decide ((i:Int)<(len w.Bytes)))&&((decide (n<0))||(decide ((i:Int)<n))))=true:=by simp; omega
      rw [if_neg (df hlt),if_neg hr]
      exact .inr ⟨_,_,rfl,rfl,rfl,hl,hby⟩) F (b,0) (b,0) ⟨rfl,⟨rfl,fun h=>h⟩,0,rfl,by omega⟩ (by simp; omega)
  subst h3
  exact⟨o1,h1,h2,h4,h5⟩
theorem erase1 (F:Nat) (w:T_Write) (n:Int) (b:List Int) (he:w.Erase=true) (hb:b.length≤65536) (hF:200000<F) :
    ∃o,iter (fun s:List Int×Int=>flash_Apply_l1 F w (eff n b.length) s.1 s.2) F (b,0)=some o∧iter (fun s:List Int×Int=>wirelessref39_Apply_l2 F n s.1 s.2) F (b,0)=some o∧o.length=b.length∧((∀x∈b,Byte x)→∀x∈o,Byte x):=by
  obtain⟨o1,o2,h1,h2,h3,h4,h5⟩:=iter_sim (b1:=fun s:List Int×Int=>flash_Apply_l1 F w (eff n b.length) s.1 s.2) (b2:=fun s:List Int×Int=>wirelessref39_Apply_l2 F n s.1 s.2)
    (fun s t=>s=t∧(s.1.length=b.length∧((∀x∈b,Byte x)→∀x∈s.1,Byte x))∧∃i:Nat,s.2=(i:Int)∧i≤b.length) (fun o p=>o=p∧o.length=b.length∧((∀x∈b,Byte x)→∀x∈o,Byte x)) (fun s=>b.length - s.2.toNat) (by
    rintro⟨l,at_⟩ _ ⟨rfl,⟨hl,hby⟩,i,hi,hil⟩
    simp only at hl hi hby
    subst hi
    show (∃t1 t2,flash_Apply_l1 F w (eff n b.length) l (i:Int)=some (.next t1)∧wirelessref39_Apply_l2 F n l (i:Int)=some (.next t2)∧_)∨∃o1 o2,flash_Apply_l1 F w (eff n b.length) l (i:Int)=some (.done o1)∧wirelessref39_Apply_l2 F n l (i:Int)=some (.done o2)∧_
    unfold flash_Apply_l1 wirelessref39_Apply_l2 flash_Apply_j4
    have hn:=len_nat l
    by_cases hc:i<b.length∧(n<0∨(i:Int)<n)
    · have hlt:(i:Int)<eff n b.length:=by
        unfold eff
        split <;> omega
      have hx:l[i]? = some l[i]:=List.getElem?_eq_getElem (by omega)
      have hr:((decide ((i:Int)<(len l)))&&((decide (n<0))||(decide ((i:Int)<n))))=true:=by simp; omega
      rw [if_pos (dt hlt),he,if_pos rfl,if_pos hr,idx_nat,hx,Option.bind_some,upd_nat (by omega),Option.bind_some,w64_nat i (by omega)]
      exact .inl ⟨_,_,rfl,rfl,⟨rfl,⟨by simp [hl],fun hq=>set_byte (hby hq) _ ⟨by decide,by decide⟩⟩,i+1,rfl,by omega⟩,by simp only; omega⟩
    · have hlt:¬ (i:Int)<eff n b.length:=by
        unfold eff
        split <;> omega
      have hr:¬ ((decide ((i:Int)<(len l)))&&((decide (n<0))||(decide ((i:Int)<n))))=true:=by simp; omega
      rw [if_neg (df hlt),if_neg hr]
      exact .inr ⟨_,_,rfl,rfl,rfl,hl,hby⟩) F (b,0) (b,0) ⟨rfl,⟨rfl,fun h=>h⟩,0,rfl,by omega⟩ (by simp; omega)
  subst h3
  exact⟨o1,h1,h2,h4,h5⟩
theorem flash_l2:flash_Apply_l2=flash_Apply_l1:=rfl
theorem ref_l3:wirelessref39_Apply_l3=wirelessref39_Apply_l1:=rfl
theorem ref_l4:wirelessref39_Apply_l4=wirelessref39_Apply_l2:=rfl
theorem eff_iff (n all:Int):(if ((decide (n<0))||(decide (n > all)))=true then all else n)=eff n all:=by
  unfold eff
  simp
theorem j1_eff (F:Nat) (w:T_Write) (n:Int) (f:T_Flash) (all:Int):flash_Apply_j1 F w n f all=flash_Apply_j2 F w f (eff n all):=by
  unfold flash_Apply_j1
  rw [← eff_iff]
  split <;> rfl
theorem j5_eff (F:Nat) (w:T_Write) (n:Int) (f:T_Flash) (all:Int):flash_Apply_j5 F w n f all=flash_Apply_j6 F w f (eff n all):=by
  unfold flash_Apply_j5
  rw [← eff_iff]
  split <;> rfl
theorem apply_same (F:Nat) (f:T_Flash) (w:T_Write) (n:Int) (h1:f.Banks.1.length≤65536) (h2:f.Banks.2.length≤65536) (hB:w.Bytes.length≤65536) (ho:I64 w.Offset) (hF:200000<F) :
    ∃o,flash_Apply F f w n=some o∧wirelessref39_Apply F f w n=some o∧o.Banks.1.length=f.Banks.1.length∧o.Banks.2.length=f.Banks.2.length∧((∀x∈f.Banks.1,Byte x)→∀x∈o.Banks.1,Byte x)∧((∀x∈f.Banks.2,Byte x)→∀x∈o.Banks.2,Byte x):=by
  unfold flash_Apply wirelessref39_Apply
  rw [copied_id F f h1 h2 (by omega),copy_id F f h1 h2,Option.bind_some,Option.bind_some]
  by_cases hb:w.Bank<0∨w.Bank > 1
  · have q1:((w.Bank != 0)&&(w.Bank != 1))=true:=by simp; omega
    have q2:((decide (w.Bank<0))||(decide (w.Bank > 1)))=true:=by simp; omega
    rw [if_pos q1,if_pos q2]
    exact⟨f,rfl,rfl,rfl,rfl,fun h=>h,fun h=>h⟩
  · have q1:¬ ((w.Bank != 0)&&(w.Bank != 1))=true:=by simp; omega
    have q2:¬ ((decide (w.Bank<0))||(decide (w.Bank > 1)))=true:=by simp; omega
    rw [if_neg q1,if_neg q2]
    by_cases h0:w.Bank=0
    · have q3:(w.Bank == 0)=true:=by simp [h0]
      rw [if_pos q3,if_pos q3]
      cases he:w.Erase
      · rw [if_neg (by decide),if_neg (by decide),j1_eff]
        obtain⟨o,e1,e2,e3,e4⟩:=write1 F w n f.Banks.1 he hB h1 ho hF
        unfold flash_Apply_j2 wirelessref39_Apply_j1
        rw [len_nat,e1,e2]
        exact⟨_,rfl,rfl,e3,rfl,e4,fun h=>h⟩
      · rw [if_pos rfl,if_pos rfl,j1_eff]
        obtain⟨o,e1,e2,e3,e4⟩:=erase1 F w n f.Banks.1 he h1 hF
        unfold flash_Apply_j2
        rw [len_nat,e1,e2]
        exact⟨_,rfl,rfl,e3,rfl,e4,fun h=>h⟩
    · have q3:¬ (w.Bank == 0)=true:=by simp [h0]
      have q4:(w.Bank == 1)=true:=by simp; omega
      rw [if_neg q3,if_neg q3,if_pos q4,if_pos q4]
      cases he:w.Erase
      · rw [if_neg (by decide),if_neg (by decide),j5_eff]
        obtain⟨o,e1,e2,e3,e4⟩:=write1 F w n f.Banks.2 he hB h2 ho hF
        unfold flash_Apply_j6 wirelessref39_Apply_j6
        rw [flash_l2,ref_l3,len_nat,e1,e2]
        exact⟨_,rfl,rfl,rfl,e3,fun h=>h,e4⟩
      · rw [if_pos rfl,if_pos rfl,j5_eff]
        obtain⟨o,e1,e2,e3,e4⟩:=erase1 F w n f.Banks.2 he h2 hF
        unfold flash_Apply_j6
        rw [flash_l2,ref_l4,len_nat,e1,e2]
        exact⟨_,rfl,rfl,rfl,e3,fun h=>h,e4⟩
def recs (l:List T_Item):List Int:=(l.map fun x=>recB x.Key x.Value).flatten
theorem recs_snoc (l:List T_Item) (x:T_Item):recs (l++[x])=recs l++recB x.Key x.Value:=by simp [recs]
theorem recs_len:∀(l:List T_Item),(∀x∈l,OkI x)→(recs l).length≤1032 * l.length
  | [],_=>by simp [recs]
  | x::l,h=>by
    have h1:=(h x (by simp)).vl
    have h2:=recs_len l fun y hy=>h y (by simp [hy])
    have e:(recs (x::l)).length=(recB x.Key x.Value).length+(recs l).length:=by simp [recs]
    rw [e,recB_len,List.length_cons]
    omega
theorem recs_byte (l:List T_Item) (h:∀x∈l,OkI x):∀b∈recs l,Byte b:=fun b hb=>by
  obtain⟨y,hy,hby⟩:=List.mem_flatten.1 hb
  obtain⟨x,hx,rfl⟩:=List.mem_map.1 hy
  exact seal_byte (rec_in _ (h x hx).vb) b hby
theorem all_f (F:Nat) (l:List T_Item) (h:∀x∈l,OkI x) (hl:l.length≤100000) (hF:200000<F) (hFF:F≤FF):iter (fun s:List Int×Int=>flash_Plan_l1 F l s.1 s.2) F ([],0)=some (recs l):=by
  have:=iter_count (body:=fun s:List Int×Int=>flash_Plan_l1 F l s.1 s.2) (fun i=>(recs (l.take i),(i:Int))) l.length (recs l) (by
    intro i hi
    have hx:l[i]? = some l[i]:=List.getElem?_eq_getElem hi
    have hok:=h _ (List.getElem_mem hi)
    have hn:=recs_len (l.take i) fun y hy=>h y (List.mem_of_mem_take hy)
    have htl:(l.take i).length≤i:=by simp; omega
    rw [List.take_add_one,hx,Option.toList_some,recs_snoc]
    generalize l[i]=x at *
    show flash_Plan_l1 F l (recs (l.take i)) (i:Int)=_
    unfold flash_Plan_l1
    have hvl:=hok.vl
    rw [if_pos (dt (by rw [len_nat]; omega)),idx_nat,hx,Option.bind_some,record_eq F x.Key x.Value hok.k0 hok.k1 hok.vb (by omega) (by omega) hFF,Option.bind_some,app_cat (by rw [recB_len]; omega),Option.bind_some,w64_nat i (by omega)]) (by
    show flash_Plan_l1 F l _ _=_
    unfold flash_Plan_l1
    rw [if_neg (df (by rw [len_nat]; omega)),List.take_length]) F 0 (by omega) (by omega)
  exact this
theorem all_r (F:Nat) (l:List T_Item) (h:∀x∈l,OkI x) (hl:l.length≤100000) (hF:200000<F) (hFF:F≤FF):iter (fun s:List Int×Int=>wirelessref39_Plan_l1 F l s.1 s.2) F ([],0)=some (recs l):=by
  have:=iter_count (body:=fun s:List Int×Int=>wirelessref39_Plan_l1 F l s.1 s.2) (fun i=>(recs (l.take i),(i:Int))) l.length (recs l) (by
    intro i hi
    have hx:l[i]? = some l[i]:=List.getElem?_eq_getElem hi
    have hok:=h _ (List.getElem_mem hi)
    have hn:=recs_len (l.take i) fun y hy=>h y (List.mem_of_mem_take hy)
    have htl:(l.take i).length≤i:=by simp; omega
    rw [List.take_add_one,hx,Option.toList_some,recs_snoc]
    generalize l[i]=x at *
    show wirelessref39_Plan_l1 F l (recs (l.take i)) (i:Int)=_
    unfold wirelessref39_Plan_l1
    have hvl:=hok.vl
    rw [if_pos (dt (by rw [len_nat]; omega)),idx_nat,hx,Option.bind_some,Option.bind_some,rrecord_eq F x.Key x.Value hok.k0 hok.k1 hok.vb (by omega) (by omega) hFF,Option.bind_some,app_cat (by rw [recB_len]; omega),Option.bind_some,w64_nat i (by omega)]) (by
    show wirelessref39_Plan_l1 F l _ _=_
    unfold wirelessref39_Plan_l1
    rw [if_neg (df (by rw [len_nat]; omega)),List.take_length]) F 0 (by omega) (by omega)
  exact this
def same (l:List T_Item) (k:Int) (v:List Int):Bool:=match l.find? (fun x=>x.Key == k) with
  | none=>decide (v=[])
  | some x=>decide (x.Value=v)
theorem same_f (F:Nat) (l:List T_Item) (k:Int) (v:List Int) (h:∀x∈l,OkI x) (hF:200000<F) (hv:v.length≤1024) :
    (if ((got (l.find? fun x=>x.Key == k)).2 == (decide ((len v) > 0)))=true then (slices_Equal_byte_byte F (got (l.find? fun x=>x.Key == k)).1 v).bind fun x_20=>some (x_20) else some (false))=some (same l k v):=by
  unfold same
  have hd1:decide (len v > 0) = !decide (v=[]):=by
    cases v with
    | nil=>rfl
    | cons _ _=>simp [len]
  cases hf:l.find? fun x=>x.Key == k with
  | none=>
    show (if (false == (decide ((len v) > 0)))=true then (slices_Equal_byte_byte F [] v).bind fun x_20=>some (x_20) else some (false))=some (decide (v=[]))
    rw [hd1]
    by_cases hz:v=[]
    · subst hz
      rw [if_pos (by decide),equal_eq F _ _ (by simp) hF]
      rfl
    · rw [if_neg (by simp [hz])]
      simp [hz]
  | some x=>
    have hx:=h x (List.mem_of_find?_eq_some hf)
    show (if (true == (decide ((len v) > 0)))=true then (slices_Equal_byte_byte F x.Value v).bind fun x_20=>some (x_20) else some (false))=some (decide (x.Value=v))
    rw [hd1]
    have hvl:=hx.vl
    by_cases hz:v=[]
    · rw [if_neg (by simp [hz])]
      subst hz
      simp [hx.vn]
    · rw [if_pos (by simp [hz]),equal_eq F _ _ (by omega) hF]
      rfl
theorem same_r (l:List T_Item) (k:Int) (v:List Int) (h:∀x∈l,OkI x) (hvb:∀x∈v,Byte x) :
    ((if (got (l.find? fun x=>x.Key == k)).2=true then some (((str (got (l.find? fun x=>x.Key == k)).1) == (str v))) else some (false)):Option Bool).bind (fun z=>some (z||((!(got (l.find? fun x=>x.Key == k)).2)&&((len v) == 0))))=some (same l k v):=by
  unfold same
  cases hf:l.find? fun x=>x.Key == k with
  | none=>
    show ((some false:Option Bool).bind fun z=>some (z||(!false&&(len v == 0))))=some (decide (v=[]))
    cases v with
    | nil=>rfl
    | cons _ _=>simp [len]; omega
  | some x=>
    have hx:=h x (List.mem_of_find?_eq_some hf)
    show ((some (str x.Value == str v):Option Bool).bind fun z=>some (z||(!true&&(len v == 0))))=some (decide (x.Value=v))
    rw [str_bytes hx.vb,str_bytes hvb,Option.bind_some]
    by_cases hq:x.Value=v
    · simp [hq]
    · simp [hq]
theorem plan_w1 (n:Nat) (h:n≤200000000):w64 (10+(n:Int))=10+n:=w64_id (by omega) (by omega)
theorem plan_w2 (n:Nat) (h:n≤200000000):w64 ((n:Int)+10)=n+10:=w64_id (by omega) (by omega)
theorem plan_w3 {b:Int} (h0:0≤b) (h1:b≤1):w64 (1 - b)=1 - b:=w64_id (by omega) (by omega)
theorem plan_w4 {b:Int} (h0:0≤b) (h1:b<4294967296):w64 (b+1)=b+1:=w64_id (by omega) (by omega)
inductive PlanOk (s:T_Store) (k:Int) (v:List Int) (m:List T_Item):List T_Write→Int→Prop where
  | long (h:1024<v.length):PlanOk s k v m [] 4
  | same (h:same s.Items k v=true) (hv:v.length≤1024):PlanOk s k v m [] 0
  | app (hv:v.length≤1024) (h:((recB k v).length:Int)≤s.Flash.Banks.1.length - s.End):PlanOk s k v m [⟨s.Bank,false,s.End,recB k v⟩] 0
  | full (hv:v.length≤1024):PlanOk s k v m [] 8
  | new (hv:v.length≤1024) (h:10+(recs m).length≤s.Flash.Banks.1.length) (hc:s.Count<4294967295):PlanOk s k v m [⟨1 - s.Bank,true,0,[]⟩,⟨1 - s.Bank,false,10,recs m⟩,⟨1 - s.Bank,false,0,headB (s.Count+1)⟩] 0
theorem plan_both (F:Nat) (f:T_Flash) (s:T_Store) (hm:Mtd f s) (hf:f.Banks.1.length≤65536) (k:Int) (k0:0≤k) (k1:k<65536) (v:List Int) (hvb:∀x∈v,Byte x) (hF:200000<F) (hFF:F≤FF) :
    ∃m ws e,(v.length≤1024→wirelessref39_Set F s.Items k v=some m)∧flash_Plan F s k v=some (ws,e)∧wirelessref39_Plan F s k v=some (ws,e)∧PlanOk s k v m ws e∧(v.length≤1024→Lst m∧m.length≤s.Items.length+1):=by
  obtain⟨hfl,hbk,he0,he1,hc0,hc1,hit,hil,hsz⟩:=hm
  unfold flash_Plan wirelessref39_Plan
  rw [len_nat]
  by_cases hv:v.length≤1024
  · have c0:¬ decide ((v.length:Int) > 1024)=true:=df (by omega)
    rw [if_neg c0,if_neg c0]
    rw [get_eq F s k hit (by omega) hF,rget_eq F s k (fun x hx=>by have:=(hit.ok x hx).vl; omega) (by omega) hF,Option.bind_some,Option.bind_some]
    obtain⟨m,m1,m2,m3,m4⟩:=set_both F s.Items ⟨k,v⟩ hit k0 k1 hvb hv (by omega) hF
    have hsf:=same_f F s.Items k v hit.ok hF hv
    have hsr:=same_r s.Items k v hit.ok hvb
    rw [len_nat] at hsf
    rw [hsf,Option.bind_some]
    generalize (if (got (s.Items.find? fun x=>x.Key == k)).2=true then some ((str (got (s.Items.find? fun x=>x.Key == k)).1) == (str v)) else some (false):Option Bool)=q at hsr ⊢
    cases q with
    | none=>cases hsr
    | some q=>
      rw [Option.bind_some,Option.some.injEq] at hsr
      rw [len_nat] at hsr
      rw [Option.bind_some,hsr]
      by_cases hs:same s.Items k v=true
      · rw [if_pos hs,if_pos hs]
        exact⟨m,[],0,fun _=>m2,rfl,rfl,.same hs hv,fun _=>⟨m3,m4⟩⟩
      · rw [if_neg hs,if_neg hs]
        rw [record_eq F k v k0 k1 hvb (by omega) (by omega) hFF,rrecord_eq F k v k0 k1 hvb (by omega) (by omega) hFF,Option.bind_some,Option.bind_some]
        unfold flash_Free flash_size flash_Free_j1
        rw [Option.bind_some,Option.bind_some,len_nat,len_nat,hfl]
        have hw:w64 ((f.Banks.1.length:Int) - s.End)=(f.Banks.1.length:Int) - s.End:=w64_id (by omega) (by omega)
        rw [hw]
        clear hw
        by_cases hr:((recB k v).length:Int)≤f.Banks.1.length - s.End
        · rw [if_pos (dt hr),if_pos (dt hr)]
          exact⟨m,_,0,fun _=>m2,rfl,rfl,.app hv (by rw [hfl]; exact hr),fun _=>⟨m3,m4⟩⟩
        · rw [if_neg (df hr),if_neg (df hr)]
          unfold slices_Clone_api_Item_api_Item
          rw [app_small (by simp; omega) (by decide),List.nil_append,Option.bind_some,Option.bind_some,m1,Option.bind_some]
          simp only at m2
          rw [m2,Option.bind_some,all_f F m m3.ok (by omega) hF hFF,all_r F m m3.ok (by omega) hF hFF,Option.bind_some,Option.bind_some]
          unfold flash_Plan_j1 wirelessref39_Plan_j1 flash_size
          have hml:=recs_len m m3.ok
          rw [Option.bind_some,len_nat,len_nat,hfl]
          have hk1:(recs m).length≤200000000:=by omega
          have hb0:0≤s.Bank∧s.Bank≤1:=by omega
          generalize hR:recs m=R at *
          rw [plan_w1 R.length hk1,plan_w2 R.length hk1,plan_w3 hb0.1 hb0.2,plan_w4 hc0 hc1]
          by_cases hn:10+R.length≤f.Banks.1.length∧s.Count<4294967295
          · have c1:¬ ((decide ((10+(R.length:Int)) > (f.Banks.1.length:Int)))||(decide (s.Count≥4294967295)))=true:=by simp; omega
            have c2:¬ ((decide (((R.length:Int)+10) > (f.Banks.1.length:Int)))||(s.Count == 4294967295))=true:=by simp; omega
            rw [if_neg c1,if_neg c2,header_eq F _ (by omega) (by omega) (by omega) hFF,rheader_eq F _ (by omega) (by omega) (by omega) hFF,Option.bind_some]
            subst hR
            exact⟨m,_,0,fun _=>rfl,rfl,rfl,.new hv (by rw [hfl]; exact hn.1) hn.2,fun _=>⟨m3,m4⟩⟩
          · have c1:((decide ((10+(R.length:Int)) > (f.Banks.1.length:Int)))||(decide (s.Count≥4294967295)))=true:=by simp; omega
            have c2:((decide (((R.length:Int)+10) > (f.Banks.1.length:Int)))||(s.Count == 4294967295))=true:=by simp; omega
            rw [if_pos c1,if_pos c2]
            exact⟨m,[],8,fun _=>rfl,rfl,rfl,.full hv,fun _=>⟨m3,m4⟩⟩
  · have c0:decide ((v.length:Int) > 1024)=true:=dt (by omega)
    rw [if_pos c0,if_pos c0]
    exact⟨[],[],4,fun h=>absurd h hv,rfl,rfl,.long (by omega),fun h=>absurd h hv⟩
structure OkW (w:T_Write):Prop where
  b:w.Bytes.length≤65536
  o:I64 w.Offset
theorem plan_ok {s:T_Store} {k:Int} {v:List Int} {m:List T_Item} {ws:List T_Write} {e:Int} (f:T_Flash) (hm:Mtd f s) (hf:f.Banks.1.length≤65536) (h:PlanOk s k v m ws e):(∀w∈ws,OkW w)∧ws.length≤100∧(e≠0→ws=[])∧(e=0∨e=4∨e=8):=by
  obtain⟨hfl,hbk,he0,he1,hc0,hc1,hit,hil,hsz⟩:=hm
  cases h with
  | long h=>exact⟨fun w hw=>by simp at hw,by simp,fun _=>rfl,.inr (.inl rfl)⟩
  | same h=>exact⟨fun w hw=>by simp at hw,by simp,fun _=>rfl,.inl rfl⟩
  | full h=>exact⟨fun w hw=>by simp at hw,by simp,fun _=>rfl,.inr (.inr rfl)⟩
  | app hv h=>
    rw [hfl] at h
    refine ⟨fun w hw=>?_,by simp,fun h=>absurd rfl h,.inl rfl⟩
    rw [List.mem_singleton] at hw
    subst hw
    exact⟨by simp only; omega,by simp only [I64]; omega⟩
  | new hv h hc=>
    rw [hfl] at h
    refine ⟨fun w hw=>?_,by simp,fun h=>absurd rfl h,.inl rfl⟩
    have hw':w=⟨1 - s.Bank,true,0,[]⟩∨w=⟨1 - s.Bank,false,10,recs m⟩∨w=⟨1 - s.Bank,false,0,headB (s.Count+1)⟩:=by simpa using hw
    rcases hw' with rfl | rfl | rfl
    · exact⟨by simp,by simp only [I64]; omega⟩
    · exact⟨by simp only; omega,by simp only [I64]; omega⟩
    · exact⟨by simp only [headB_len]; omega,by simp only [I64]; omega⟩
theorem kept_id (F:Nat) (f:T_Flash) (s:T_Store) (hm:Mtd f s) (h1:f.Banks.1.length≤65536) (h2:f.Banks.2.length≤65536) (hF:200000<F):flash_kept F s=some s:=by
  unfold flash_kept
  have hil:=hm.il
  rw [hm.fl,copied_id F f h1 h2 (by omega),Option.bind_some]
  have:=iter_count (body:=fun q:List T_Item×Int=>flash_kept_l1 F s q.1 q.2) (fun i=>(s.Items.take i,(i:Int))) s.Items.length s.Items (by
    intro i hi
    have hx:s.Items[i]? = some s.Items[i]:=List.getElem?_eq_getElem hi
    have hok:=(hm.it.ok _ (List.getElem_mem hi)).vl
    have htl:(s.Items.take i).length≤i:=by simp; omega
    rw [List.take_add_one,hx,Option.toList_some]
    generalize s.Items[i]=x at *
    show flash_kept_l1 F s (s.Items.take i) (i:Int)=_
    unfold flash_kept_l1
    rw [if_pos (dt (by rw [len_nat]; omega)),idx_nat,hx,Option.bind_some,join_one F _ (by omega) (by omega),Option.bind_some,app_small (by simp; omega) (by decide),Option.bind_some,w64_nat i (by omega)]) (by
    show flash_kept_l1 F s _ _=_
    unfold flash_kept_l1
    rw [if_neg (df (by rw [len_nat]; omega)),List.take_length]) F 0 (by omega) (by omega)
  rw [List.take_zero,show ((0:Nat):Int)=0 from rfl] at this
  rw [this,Option.bind_some]
  unfold flash_kept_j1
  rw [← hm.fl]
structure Shp (f g:T_Flash):Prop where
  a:g.Banks.1.length=f.Banks.1.length
  b:g.Banks.2.length=f.Banks.2.length
  c:(∀x∈f.Banks.1,Byte x)→∀x∈g.Banks.1,Byte x
  d:(∀x∈f.Banks.2,Byte x)→∀x∈g.Banks.2,Byte x
theorem shp_rfl (f:T_Flash):Shp f f:=⟨rfl,rfl,fun h=>h,fun h=>h⟩
theorem shp_trans {f g h:T_Flash} (a:Shp f g) (b:Shp g h):Shp f h:=⟨b.a.trans a.a,b.b.trans a.b,fun q=>b.c (a.c q),fun q=>b.d (a.d q)⟩
theorem done_both (F:Nat) (f:T_Flash) (ws:List T_Write) (e:Int) (hw:∀w∈ws,OkW w) (h1:f.Banks.1.length≤65536) (h2:f.Banks.2.length≤65536) (hn:ws.length≤100) (hF:200000<F) :
    ∃g,iter (fun s:T_Flash×Int=>flash_Put_l1 F (ws,e) s.1 s.2) F (f,0)=some g∧wirelessref39_Done F f ws=some g∧Shp f g:=by
  unfold wirelessref39_Done wirelessref39_Done_j1
  obtain⟨g,g2,e1,e2,rfl,e3⟩:=iter_sim (b1:=fun s:T_Flash×Int=>flash_Put_l1 F (ws,e) s.1 s.2) (b2:=fun s:T_Flash×Int=>wirelessref39_Done_l1 F ws s.1 s.2)
    (fun s t=>s=t∧Shp f s.1∧∃i:Nat,s.2=(i:Int)∧i≤ws.length) (fun o p=>o=p∧Shp f o) (fun s=>ws.length - s.2.toNat) (by
    rintro⟨g,at_⟩ _ ⟨rfl,hs,i,hi,hil⟩
    simp only at hs hi
    subst hi
    show (∃t1 t2,flash_Put_l1 F (ws,e) g (i:Int)=some (.next t1)∧wirelessref39_Done_l1 F ws g (i:Int)=some (.next t2)∧_)∨∃o1 o2,flash_Put_l1 F (ws,e) g (i:Int)=some (.done o1)∧wirelessref39_Done_l1 F ws g (i:Int)=some (.done o2)∧_
    unfold flash_Put_l1 wirelessref39_Done_l1
    by_cases hin:i<ws.length
    · have hx:ws[i]? = some ws[i]:=List.getElem?_eq_getElem hin
      have hok:=hw _ (List.getElem_mem hin)
      generalize ws[i]=w at *
      obtain⟨o,a1,a2,a3,a4,a5,a6⟩:=apply_same F g w (-1) (by rw [hs.a]; exact h1) (by rw [hs.b]; exact h2) hok.b hok.o hF
      have hc:decide ((i:Int)<len ws)=true:=dt (by rw [len_nat]; omega)
      rw [if_pos hc,if_pos hc,idx_nat,hx,Option.bind_some,Option.bind_some,a1,a2,Option.bind_some,w64_nat i (by omega)]
      exact .inl ⟨_,_,rfl,rfl,⟨rfl,shp_trans hs ⟨a3,a4,a5,a6⟩,i+1,rfl,by omega⟩,by simp only; omega⟩
    · have hc:¬ decide ((i:Int)<len ws)=true:=df (by rw [len_nat]; omega)
      rw [if_neg hc,if_neg hc]
      exact .inr ⟨_,_,rfl,rfl,rfl,hs⟩) F (f,0) (f,0) ⟨rfl,shp_rfl f,0,rfl,by omega⟩ (by simp; omega)
  exact⟨g,e1,by rw [e2]; rfl,e3⟩
structure Mt (F:Nat) (f:T_Flash) (s:T_Store):Prop where
  m:Mtd f s
  r:wirelessref39_Mount F f=some (s,0)
  b1:∀x∈f.Banks.1,Byte x
  b2:∀x∈f.Banks.2,Byte x
theorem put_mt (F:Nat) (f:T_Flash) (s:T_Store) (hM:Mt F f s) (k:Int) (k0:0≤k) (k1:k<65536) (v:List Int) (hvb:∀x∈v,Byte x) (hF:200000<F) (hFF:F≤FF) :
    ∃ws e,flash_Plan F s k v=some (ws,e)∧wirelessref39_Plan F s k v=some (ws,e)∧ws.length≤3∧(e=0→∃g t,flash_Put F s k v=some (t,0)∧wirelessref39_Put F s k v=some (t,0)∧Mt F g t):=by
  obtain⟨hm,hR,hb1,hb2⟩:=hM
  obtain⟨hc1,hc2,hc3⟩:=hm.sz
  obtain⟨m,ws,e,p1,p2,p3,p4,p5⟩:=plan_both F f s hm hc3 k k0 k1 v hvb hF hFF
  obtain⟨hw,hn,he,_⟩:=plan_ok f hm hc3 p4
  refine ⟨ws,e,p2,p3,by cases p4 <;> simp,fun h0=>?_⟩
  subst h0
  unfold flash_Put wirelessref39_Put
  rw [p2,p3,Option.bind_some,Option.bind_some]
  simp only
  rw [if_neg (show ¬ ((0:Int) != 0)=true by decide)]
  by_cases hz:ws=[]
  · subst hz
    rw [if_pos (by decide),kept_id F f s hm hc3 (by omega) hF,Option.bind_some]
    obtain⟨g,g1,g2,g3⟩:=done_both F f [] 0 hw hc3 (by omega) hn hF
    have hg:g=f:=by
      obtain⟨F',rfl⟩:∃F',F=F'+1:=⟨F - 1,by omega⟩
      rw [iter_stop (o:=f) (by show flash_Put_l1 _ _ f 0=_; unfold flash_Put_l1; rw [if_neg (by simp [len])])] at g1
      exact (Option.some.inj g1).symm
    rw [hm.fl,g2,Option.bind_some,hg,hR,Option.bind_some]
    exact⟨f,s,rfl,rfl,hm,hR,hb1,hb2⟩
  · have hl:ws.length≠0:=fun h=>hz (List.length_eq_zero_iff.1 h)
    rw [if_neg (by simp [len]; exact hz),hm.fl]
    obtain⟨g,g1,g2,g3⟩:=done_both F f ws 0 hw hc3 (by omega) hn hF
    obtain⟨t,e',m1,m2,m3,m4⟩:=mount_both F g (g3.c hb1) (g3.d hb2) hF hFF
    rw [g1,g2,Option.bind_some,Option.bind_some,m2,Option.bind_some]
    unfold flash_Put_j1
    rw [m1,Option.bind_some]
    rcases m4 with ⟨rfl,m4⟩ | ⟨_,_,m4⟩
    · exact⟨g,t,rfl,rfl,m4,m2,g3.c hb1,g3.d hb2⟩
    · exact absurd ⟨by rw [g3.a,g3.b]; exact hc1,by rw [g3.a]; exact hc2,by rw [g3.a]; exact hc3⟩ m4
theorem sameW_refl (F:Nat) (a:List T_Write) (hl:a.length≤100) (hF:200000<F):wirelessref39_SameWrites F a a=some true:=by
  unfold wirelessref39_SameWrites
  rw [if_neg (by simp)]
  have:=iter_count (body:=fun s:Int=>wirelessref39_SameWrites_l1 F a a s) (fun i=>(i:Int)) a.length (.inl ()) (by
    intro i hi
    have hx:a[i]? = some a[i]:=List.getElem?_eq_getElem hi
    show wirelessref39_SameWrites_l1 F a a (i:Int)=_
    unfold wirelessref39_SameWrites_l1 wirelessref39_SameWrites_j2
    rw [if_pos (dt (by rw [len_nat]; omega)),idx_nat,hx,Option.bind_some,Option.bind_some,if_neg (by simp),if_neg (by simp),if_neg (by simp),if_neg (by simp),w64_nat i (by omega)]) (by
    show wirelessref39_SameWrites_l1 F a a _=_
    unfold wirelessref39_SameWrites_l1
    rw [if_neg (df (by rw [len_nat]; omega))]) F 0 (by omega) (by omega)
  rw [show ((0:Nat):Int)=0 from rfl] at this
  rw [this]
  rfl
end V
end Go.Proofs.YtbdhonofhlpdoaaGreatDoor
