/- Items, records, Mount, Get, Apply, Plan. -/
import Derived.Test.YtbdhonofhlpdoaaDoorLawI
namespace Go.Proofs.YtbdhonofhlpdoaaDoor
namespace V
structure OkI (x:T_Item):Prop where
  k0:0≤x.Key
  k1:x.Key<65536
  vb:∀b∈x.Value,Byte b
  vl:x.Value.length≤1024
  vn:x.Value≠[]
structure Lst (l:List T_Item):Prop where
  ord:l.Pairwise fun a b=>a.Key<b.Key
  ok:∀x∈l,OkI x
theorem lst_nil:Lst []:=⟨.nil,fun _ h=>by cases h⟩
theorem split_at (k:Int):∀(l:List T_Item),(l.Pairwise fun a b=>a.Key<b.Key)→∃a b,l=a++b∧(∀x∈a,x.Key<k)∧∀x∈b,k≤x.Key
  | [],_=>⟨[],[],rfl,(fun _ h=>by cases h),(fun _ h=>by cases h)⟩
  | c::l,h=>by
    obtain⟨h1,h2⟩:=List.pairwise_cons.1 h
    by_cases hc:c.Key<k
    · obtain⟨a,b,rfl,ha,hb⟩:=split_at k l h2
      refine ⟨c::a,b,rfl,?_,hb⟩
      intro x hx
      rcases List.mem_cons.1 hx with rfl | hx
      · exact hc
      · exact ha x hx
    · refine ⟨[],c::l,rfl,(fun _ h=>by cases h),?_⟩
      intro x hx
      rcases List.mem_cons.1 hx with rfl | hx
      · omega
      · have:=h1 x hx
        omega
def hd (k:Int):List T_Item→Bool
  | []=>false
  | c::_=>c.Key == k
theorem cmp_eq (F:Nat) (x:T_Item) (k:Int):flash_place_1 F x k=some (if x.Key<k then -1 else if x.Key > k then 1 else 0):=by
  unfold flash_place_1 cmp_Compare_uint16 cmp_isNaN_uint16
  simp only [Option.bind_some,bne_self_eq_false,Bool.false_eq_true,if_false,decide_eq_true_eq]
  by_cases h1:x.Key<k
  · rw [if_pos h1,if_pos h1]; rfl
  · rw [if_neg h1,if_neg h1]
    by_cases h2:x.Key > k
    · rw [if_pos h2,if_pos h2]; rfl
    · rw [if_neg h2,if_neg h2]; rfl
theorem at_a {a b:List T_Item} {i:Nat} {x:T_Item} (k:Int) (ha:∀x∈a,x.Key<k) (hb:∀x∈b,k≤x.Key) (hx:(a++b)[i]? = some x):x.Key<k↔i<a.length:=by
  by_cases hi:i<a.length
  · rw [List.getElem?_append_left hi] at hx
    have:=ha x (List.mem_of_getElem? hx)
    omega
  · rw [List.getElem?_append_right (by omega)] at hx
    have:=hb x (List.mem_of_getElem? hx)
    omega
theorem place_eq (F:Nat) (a b:List T_Item) (k:Int) (ha:∀x∈a,x.Key<k) (hb:∀x∈b,k≤x.Key) (hl:(a++b).length≤100000) (hF:200000<F):flash_place F (a++b) k=some ((a.length:Int),hd k b):=by
  unfold flash_place slices_BinarySearchFunc_api_Item_api_Item_uint16_at100
  obtain⟨o,h1,h2⟩:=iter_by (body:=fun s:Int×Int=>slices_BinarySearchFunc_api_Item_api_Item_uint16_at100_l1 F (a++b) k s.1 s.2) (fun s=>∃lo hi:Nat,s=((lo:Int),(hi:Int))∧lo≤a.length∧a.length≤hi∧hi≤(a++b).length) (fun o=>o=(a.length:Int)) (fun s=>(s.2 - s.1).toNat) (by
    rintro _ ⟨lo,hi,rfl,h1,h2,h3⟩
    show (∃s',slices_BinarySearchFunc_api_Item_api_Item_uint16_at100_l1 F (a++b) k (lo:Int) (hi:Int)=some (.next s')∧_)∨∃o,slices_BinarySearchFunc_api_Item_api_Item_uint16_at100_l1 F (a++b) k (lo:Int) (hi:Int)=some (.done o)∧_
    unfold slices_BinarySearchFunc_api_Item_api_Item_uint16_at100_l1
    by_cases hc:lo<hi
    · have hm:w64 (shrp (wu64 (w64 ((lo:Int)+hi))) 1)=(((lo+hi) / 2:Nat):Int):=by
        rw [w64_id (x:=(lo:Int)+hi) (by omega) (by omega),wu64_id (by omega) (by omega)]
        unfold shrp
        rw [Int.fdiv_eq_ediv_of_nonneg _ (by decide),w64_id (by omega) (by omega)]
        omega
      have hlt:(lo+hi) / 2<(a++b).length:=by omega
      have hx:(a++b)[(lo+hi) / 2]? = some (a++b)[(lo+hi) / 2]:=List.getElem?_eq_getElem hlt
      have hk:=at_a k ha hb hx
      generalize (a++b)[(lo+hi) / 2]=x at hx hk
      rw [if_pos (dt (by omega)),hm,idx_nat,hx,Option.bind_some,cmp_eq,Option.bind_some]
      by_cases hq:x.Key<k
      · rw [if_pos hq,if_pos (by decide),w64_nat _ (by omega)]
        exact .inl ⟨_,rfl,⟨(lo+hi) / 2+1,hi,rfl,by omega,h2,h3⟩,by simp only; omega⟩
      · have hneg:¬ decide ((if x.Key<k then (-1:Int) else if x.Key > k then 1 else 0)<0)=true:=by
          rw [if_neg hq]
          split <;> decide
        rw [if_neg hneg]
        exact .inl ⟨_,rfl,⟨lo,(lo+hi) / 2,rfl,h1,by omega,by omega⟩,by simp only; omega⟩
    · rw [if_neg (df (by omega))]
      exact .inr ⟨_,rfl,by omega⟩) F (0,len (a++b)) ⟨0,(a++b).length,rfl,by omega,by simp,by omega⟩ (by rw [len_nat]; simp only; omega)
  rw [h1,h2,Option.bind_some]
  unfold slices_BinarySearchFunc_api_Item_api_Item_uint16_at100_j1
  rw [len_nat,idx_nat]
  cases b with
  | nil=>
    rw [if_neg (df (by simp))]
    rfl
  | cons c b=>
    rw [if_pos (dt (by simp; omega)),List.getElem?_append_right (by omega),Nat.sub_self]
    simp only [List.getElem?_cons_zero,Option.bind_some,cmp_eq]
    have:=hb c (by simp)
    have e:((if c.Key<k then (-1:Int) else if c.Key > k then 1 else 0) == 0)=(c.Key == k):=by
      rw [if_neg (by omega)]
      by_cases h:c.Key=k
      · rw [if_neg (by omega),h]; simp
      · rw [if_pos (by omega)]; simp; omega
    rw [e]
    rfl
def setL (a b:List T_Item) (r:T_Item):List T_Item:=a++(if r.Value=[] then [] else [r])++(if hd r.Key b=true then b.tail else b)
theorem set_eq (F:Nat) (a b:List T_Item) (r:T_Item) (ha:∀x∈a,x.Key<r.Key) (hb:∀x∈b,r.Key≤x.Key) (hl:(a++b).length≤100000) (hF:200000<F):flash_set F (a++b) r=some (setL a b r):=by
  unfold flash_set setL
  rw [place_eq F a b r.Key ha hb hl hF,Option.bind_some]
  rw [len_nat]
  simp only
  by_cases hv:r.Value=[]
  · rw [if_pos hv]
    cases hh:hd r.Key b with
    | true=>
      cases b with
      | nil=>cases hh
      | cons c b=>
        rw [if_pos (by simp [hv])]
        unfold slices_Delete_api_Item_api_Item
        rw [w64_nat _ (by simp at hl; omega),if_pos (by simp; omega)]
        simp
    | false=>
      rw [if_neg (by simp),if_pos (by simp [hv])]
      simp
  · rw [if_neg hv]
    have hz:((r.Value.length:Int) == 0)=false:=by
      cases h:r.Value with
      | nil=>exact absurd h hv
      | cons _ _=>simp; omega
    rw [hz]
    cases hh:hd r.Key b with
    | true=>
      cases b with
      | nil=>cases hh
      | cons c b=>
        rw [if_neg (by decide),if_neg (by decide),if_pos rfl,idx_nat,List.getElem?_append_right (by omega),Nat.sub_self]
        simp only [List.getElem?_cons_zero,Option.bind_some]
        unfold upd
        rw [if_pos (by simp; omega)]
        simp
    | false=>
      rw [if_neg (by decide),if_neg (by decide),if_neg (by decide)]
      unfold slices_Insert_api_Item_api_Item
      rw [if_pos ⟨by omega,by simp; omega,rfl,by omega⟩]
      simp
def stp (r:T_Item) (s:List T_Item×Bool) (c:T_Item):List T_Item×Bool:=
  let s':=if (!s.2&&decide (c.Key≥r.Key))=true then (s.1++[r],true) else s
  if (c.Key != r.Key)=true then (s'.1++[c],s'.2) else s'
theorem fold_low (r:T_Item):∀(a o:List T_Item) (d:Bool),(∀x∈a,x.Key<r.Key)→a.foldl (stp r) (o,d)=(o++a,d)
  | [],o,d,_=>by simp
  | c::a,o,d,h=>by
    have hc:=h c (by simp)
    have e:stp r (o,d) c=(o++[c],d):=by
      have q1:decide (c.Key≥r.Key)=false:=decide_eq_false (by omega)
      have q2:(c.Key != r.Key)=true:=by simp; omega
      simp only [stp,q1,q2,Bool.and_false,Bool.false_eq_true,if_false,if_true]
    rw [List.foldl_cons,e,fold_low r a _ d fun x hx=>h x (by simp [hx])]
    simp
theorem fold_high (r:T_Item):∀(b o:List T_Item),(∀x∈b,r.Key<x.Key)→b.foldl (stp r) (o,true)=(o++b,true)
  | [],o,_=>by simp
  | c::b,o,h=>by
    have hc:=h c (by simp)
    have e:stp r (o,true) c=(o++[c],true):=by
      have q2:(c.Key != r.Key)=true:=by simp; omega
      simp only [stp,q2,Bool.not_true,Bool.false_and,Bool.false_eq_true,if_false,if_true]
    rw [List.foldl_cons,e,fold_high r b _ fun x hx=>h x (by simp [hx])]
    simp
theorem fold_len (r:T_Item):∀(l o:List T_Item) (d:Bool),(l.foldl (stp r) (o,d)).1.length≤o.length+2 * l.length
  | [],o,d=>by simp
  | c::l,o,d=>by
    rw [List.foldl_cons]
    have:(stp r (o,d) c).1.length≤o.length+2:=by
      unfold stp
      split <;> split <;> simp
    have h:(l.foldl (stp r) (stp r (o,d) c)).1.length≤(stp r (o,d) c).1.length+2 * l.length:=fold_len r l (stp r (o,d) c).1 (stp r (o,d) c).2
    rw [List.length_cons]
    omega
theorem ritem_app {l m:List T_Item} (h:l.length+m.length≤1000000):app 32 l m=some (l++m):=app_small (by omega) (by decide)
theorem rset_fold (F:Nat) (l:List T_Item) (r:T_Item) (hv:r.Value.length≤100000) (hl:l.length≤100000) (hF:200000<F) :
    iter (fun s:List T_Item×Bool×Int=>wirelessref39_Set_l1 F l r.Key r.Value s.1 s.2.1 s.2.2) F ([],(len r.Value == 0),0)=some (l.foldl (stp r) ([],len r.Value == 0)):=by
  have:=iter_count (body:=fun s:List T_Item×Bool×Int=>wirelessref39_Set_l1 F l r.Key r.Value s.1 s.2.1 s.2.2) (fun i=>(((l.take i).foldl (stp r) ([],len r.Value == 0)).1,((l.take i).foldl (stp r) ([],len r.Value == 0)).2,(i:Int))) l.length (l.foldl (stp r) ([],len r.Value == 0)) (by
    intro i hi
    have hx:l[i]? = some l[i]:=List.getElem?_eq_getElem hi
    have hn:=fold_len r (l.take i) [] (len r.Value == 0)
    have hn2:((l.take i).foldl (stp r) ([],len r.Value == 0)).1.length≤200000:=by
      rw [List.length_take] at hn
      simp only [List.length_nil] at hn
      omega
    clear hn
    rw [List.take_add_one,hx,Option.toList_some,List.foldl_append,List.foldl_cons,List.foldl_nil]
    show wirelessref39_Set_l1 F l r.Key r.Value ((l.take i).foldl (stp r) ([],len r.Value == 0)).1 ((l.take i).foldl (stp r) ([],len r.Value == 0)).2 (i:Int)=_
    generalize (l.take i).foldl (stp r) ([],len r.Value == 0)=s at *
    generalize l[i]=c at *
    obtain⟨o,d⟩:=s
    simp only at hn2 ⊢
    unfold wirelessref39_Set_l1 wirelessref39_Set_j4 wirelessref39_Set_j3
    rw [if_pos (dt (by rw [len_nat]; omega)),idx_nat,hx]
    simp only [Option.bind_some,w64_nat i (by omega)]
    rw [app_cat (l:=[]) (m:=r.Value) (by simp; omega),Option.bind_some,List.nil_append]
    have er:(⟨r.Key,r.Value⟩:T_Item)=r:=rfl
    rw [er,ritem_app (by simp; omega)]
    simp only [Option.bind_some]
    rw [ritem_app (l:=o++[r]) (by simp; omega),ritem_app (l:=o) (m:=[c]) (by simp; omega)]
    simp only [Option.bind_some]
    unfold stp
    cases d <;> cases hq:decide (c.Key≥r.Key) <;> cases hz:(c.Key != r.Key) <;> rfl) (by
    show wirelessref39_Set_l1 F l _ _ _ _ _=_
    unfold wirelessref39_Set_l1
    rw [if_neg (df (by rw [len_nat l]; simp only; omega)),List.take_length]) F 0 (by omega) (by omega)
  exact this
theorem rset_eq (F:Nat) (a b:List T_Item) (r:T_Item) (ha:∀x∈a,x.Key<r.Key) (hb:∀x∈b,r.Key≤x.Key) (ho:(a++b).Pairwise fun x y=>x.Key<y.Key) (hv:r.Value.length≤100000) (hl:(a++b).length≤100000) (hF:200000<F) :
    wirelessref39_Set F (a++b) r.Key r.Value=some (setL a b r):=by
  unfold wirelessref39_Set
  rw [rset_fold F _ r hv hl hF,Option.bind_some,List.foldl_append,fold_low r a [] _ ha,List.nil_append]
  have hob:b.Pairwise fun x y=>x.Key<y.Key:=(List.pairwise_append.1 ho).2.1
  unfold setL wirelessref39_Set_j1 wirelessref39_Set_j2
  have er:(⟨r.Key,r.Value⟩:T_Item)=r:=rfl
  have happ:app 1 ([]:List Int) r.Value=some r.Value:=by rw [app_cat (by simp; omega)]; rfl
  by_cases hz:r.Value=[]
  · have hd0:(len r.Value == 0)=true:=by rw [hz]; rfl
    rw [hd0,if_pos hz]
    cases b with
    | nil=>simp [hd]
    | cons c b=>
      obtain⟨h1,h2⟩:=List.pairwise_cons.1 hob
      have hc:=hb c (by simp)
      by_cases hk:c.Key=r.Key
      · have e:stp r (a,true) c=(a,true):=by
          have q2:(c.Key != r.Key)=false:=by simp [hk]
          simp only [stp,q2,Bool.not_true,Bool.false_and,Bool.false_eq_true,if_false]
        rw [List.foldl_cons,e,fold_high r b a fun x hx=>by have:=h1 x hx; omega]
        simp [hd,hk]
      · have e:stp r (a,true) c=(a++[c],true):=by
          have q2:(c.Key != r.Key)=true:=by simp [hk]
          simp only [stp,q2,Bool.not_true,Bool.false_and,Bool.false_eq_true,if_false,if_true]
        rw [List.foldl_cons,e,fold_high r b _ fun x hx=>by have:=h1 x hx; omega]
        simp [hd,hk]
  · have hd0:(len r.Value == 0)=false:=by
      cases h:r.Value with
      | nil=>exact absurd h hz
      | cons _ _=>simp [len]; omega
    rw [hd0,if_neg hz]
    cases b with
    | nil=>
      rw [List.foldl_nil,if_pos (show (!(a,false).snd)=true from rfl),happ,Option.bind_some,er,ritem_app (by simp at hl ⊢; omega),Option.bind_some]
      simp [hd]
    | cons c b=>
      obtain⟨h1,h2⟩:=List.pairwise_cons.1 hob
      have hc:=hb c (by simp)
      by_cases hk:c.Key=r.Key
      · have e:stp r (a,false) c=(a++[r],true):=by
          have q1:decide (c.Key≥r.Key)=true:=decide_eq_true (by omega)
          have q2:(c.Key != r.Key)=false:=by simp [hk]
          simp only [stp,q1,q2,Bool.not_false,Bool.and_true,Bool.false_eq_true,if_false,if_true]
        rw [List.foldl_cons,e,fold_high r b _ fun x hx=>by have:=h1 x hx; omega]
        simp [hd,hk]
      · have e:stp r (a,false) c=(a++[r]++[c],true):=by
          have q1:decide (c.Key≥r.Key)=true:=decide_eq_true (by omega)
          have q2:(c.Key != r.Key)=true:=by simp [hk]
          simp only [stp,q1,q2,Bool.not_false,Bool.and_true,if_true]
        rw [List.foldl_cons,e,fold_high r b _ fun x hx=>by have:=h1 x hx; omega]
        simp [hd,hk]
theorem iter_sim {S1 S2 O1 O2:Type} {b1:S1→Option (Out S1 O1)} {b2:S2→Option (Out S2 O2)} (R:S1→S2→Prop) (Q:O1→O2→Prop) (m:S1→Nat)
    (h:∀s1 s2,R s1 s2→(∃t1 t2,b1 s1=some (.next t1)∧b2 s2=some (.next t2)∧R t1 t2∧m t1<m s1)∨∃o1 o2,b1 s1=some (.done o1)∧b2 s2=some (.done o2)∧Q o1 o2) :
    ∀(F:Nat) (s1:S1) (s2:S2),R s1 s2→m s1<F→∃o1 o2,iter b1 F s1=some o1∧iter b2 F s2=some o2∧Q o1 o2
  | 0,_,_,_,hF=>by omega
  | F+1,s1,s2,hR,hF=>by
    rcases h s1 s2 hR with ⟨t1,t2,h1,h2,hR',hm⟩ | ⟨o1,o2,h1,h2,hq⟩
    · obtain⟨o1,o2,h3,h4,hq⟩:=iter_sim R Q m h F t1 t2 hR' (by omega)
      exact⟨o1,o2,by rw [iter_step h1,h3],by rw [iter_step h2,h4],hq⟩
    · exact⟨o1,o2,iter_stop h1,iter_stop h2,hq⟩
theorem high {k:Int} {b:List T_Item} (ho:b.Pairwise fun x y=>x.Key<y.Key) (hb:∀x∈b,k≤x.Key):∀x∈(if hd k b=true then b.tail else b),k<x.Key∧x∈b:=by
  cases b with
  | nil=>intro x hx; simp [hd] at hx
  | cons c b=>
    obtain⟨h1,h2⟩:=List.pairwise_cons.1 ho
    have hc:=hb c (by simp)
    intro x hx
    by_cases hk:c.Key=k
    · rw [if_pos (by simp [hd,hk])] at hx
      have:=h1 x hx
      exact⟨by omega,List.mem_cons_of_mem _ hx⟩
    · rw [if_neg (by simp [hd,hk])] at hx
      refine ⟨?_,hx⟩
      rcases List.mem_cons.1 hx with rfl | hx
      · omega
      · have:=h1 x hx
        omega
theorem setL_lst {a b:List T_Item} {r:T_Item} (h:Lst (a++b)) (ha:∀x∈a,x.Key<r.Key) (hb:∀x∈b,r.Key≤x.Key) (k0:0≤r.Key) (k1:r.Key<65536) (vb:∀x∈r.Value,Byte x) (vl:r.Value.length≤1024):Lst (setL a b r):=by
  obtain⟨ho,hk⟩:=h
  obtain⟨oa,ob,oab⟩:=List.pairwise_append.1 ho
  have hh:=high ob hb
  have hsub:(if hd r.Key b=true then b.tail else b).Pairwise fun x y=>x.Key<y.Key:=by
    split
    · exact ob.sublist (List.tail_sublist b)
    · exact ob
  unfold setL
  generalize (if hd r.Key b=true then b.tail else b)=y at *
  by_cases hv:r.Value=[]
  · rw [if_pos hv,List.append_nil]
    refine ⟨List.pairwise_append.2 ⟨oa,hsub,fun x hx z hz=>oab x hx z (hh z hz).2⟩,?_⟩
    intro x hx
    rcases List.mem_append.1 hx with hx | hx
    · exact hk x (List.mem_append_left _ hx)
    · exact hk x (List.mem_append_right _ (hh x hx).2)
  · rw [if_neg hv,List.append_assoc]
    refine ⟨List.pairwise_append.2 ⟨oa,?_,?_⟩,?_⟩
    · exact List.pairwise_cons.2 ⟨fun z hz=>(hh z hz).1,hsub⟩
    · intro x hx z hz
      rcases List.mem_cons.1 hz with rfl | hz
      · exact ha x hx
      · exact oab x hx z (hh z hz).2
    · intro x hx
      rcases List.mem_append.1 hx with hx | hx
      · exact hk x (List.mem_append_left _ hx)
      · rcases List.mem_cons.1 hx with rfl | hx
        · exact⟨k0,k1,vb,vl,hv⟩
        · exact hk x (List.mem_append_right _ (hh x hx).2)
theorem setL_len (a b:List T_Item) (r:T_Item):(setL a b r).length≤(a++b).length+1:=by
  unfold setL
  have h1:(if r.Value=[] then [] else [r]).length≤1:=by split <;> simp
  have h2:(if hd r.Key b=true then b.tail else b).length≤b.length:=by split <;> simp
  simp only [List.length_append]
  omega
theorem set_both (F:Nat) (l:List T_Item) (r:T_Item) (h:Lst l) (k0:0≤r.Key) (k1:r.Key<65536) (vb:∀x∈r.Value,Byte x) (vl:r.Value.length≤1024) (hl:l.length≤100000) (hF:200000<F) :
    ∃m,flash_set F l r=some m∧wirelessref39_Set F l r.Key r.Value=some m∧Lst m∧m.length≤l.length+1:=by
  obtain⟨a,b,rfl,ha,hb⟩:=split_at r.Key l h.ord
  exact⟨setL a b r,set_eq F a b r ha hb hl hF,rset_eq F a b r ha hb h.ord (by omega) hl hF,setL_lst h ha hb k0 k1 vb vl,setL_len a b r⟩
def sl (b:List Int) (i j:Nat):List Int:=(b.take j).drop i
theorem sl_byte {b:List Int} (hb:∀x∈b,Byte x) (i j:Nat):∀x∈sl b i j,Byte x:=fun x hx=>hb x (List.mem_of_mem_take (List.mem_of_mem_drop hx))
theorem sl_len {b:List Int} {i j:Nat} (h:i≤j) (h2:j≤b.length):(sl b i j).length=j - i:=by simp [sl]; omega
theorem num2 {b:List Int} (hb:∀x∈b,Byte x) {i:Nat} (h:i+2≤b.length):0≤num (sl b i (i+2))∧num (sl b i (i+2))<65536:=by
  have h1:=num_lt (sl_byte hb i (i+2))
  rw [sl_len (by omega) h,show i+2 - i=2 from by omega] at h1
  exact⟨num_nonneg (sl_byte hb i (i+2)),h1⟩
theorem wE {i:Nat} (h:i≤1000000) (k:Nat) (hk:k≤1000000):w64 ((i:Int)+k)=((i+k:Nat):Int):=by rw [w64_id (by omega) (by omega)]; omega
theorem wE2 (i:Nat) (h:i≤1000000):w64 ((i:Int)+2)=((i+2:Nat):Int):=wE h 2 (by decide)
theorem wE4 (i:Nat) (h:i≤1000000):w64 ((i:Int)+4)=((i+4:Nat):Int):=wE h 4 (by decide)
theorem wE8 (i:Nat) (h:i≤1000000):w64 ((i:Int)+8)=((i+8:Nat):Int):=wE h 8 (by decide)
theorem wS (i j:Nat) (h:i≤j) (h2:j≤1000000):w64 ((j:Int) - (i:Int))=((j - i:Nat):Int):=by rw [w64_id (by omega) (by omega)]; omega
theorem wN (n:Nat) (h:n≤1000000):w64 (n:Int)=(n:Int):=w64_id (by omega) (by omega)
theorem need_ok (F:Nat) (c:Bool) (h:c=true):flash_need F c=some ():=by subst h; rfl
theorem sub_sl (b:List Int) (i j:Nat) (h1:i≤j) (h2:j≤b.length):sub b (i:Int) (j:Int)=some (sl b i j):=sub_nat b i j h1 h2
theorem readP_core (F:Nat) (b:List Int) (e n K:Nat) (v w:List Int) (hl:b.length≤65536) (h8:e+8≤b.length) (hF:200000<F) (hFF:F≤FF)
    (hV:flash_value F (sl b e (e+2))=some (n:Int)) (hn:n<65536) (hK:flash_value F (sl b (e+2) (e+4))=some (K:Int)) (hk:K<65536)
    (hv:sl b (e+4) (e+4+n)=v) (hw:sl b e (e+8+n)=w) (hvb:∀x∈v,Byte x) (hvl:n≤1024→e+8+n≤b.length→v.length=n) :
    flash_readP F b e=some (if n≤1024∧e+8+n≤b.length∧recB K v=w then some (⟨K,v⟩,((e+8+n:Nat):Int)) else none):=by
  unfold flash_readP
  have c8:decide (((e+8:Nat):Int)≤(b.length:Int))=true:=dt (by omega)
  rw [wE8 e (by omega),len_nat,if_pos c8,need_ok F _ c8,Option.bind_some,wE2 e (by omega),wE4 e (by omega),sub_sl b e (e+2) (by omega) (by omega),Option.bind_some,hV,Option.bind_some,wE (i:=e+8) (by omega) n (by omega),wE (i:=e+4) (by omega) n (by omega)]
  by_cases h1:n≤1024∧e+8+n≤b.length
  · have c1:((decide ((n:Int)≤1024))&&(decide (((e+8+n:Nat):Int)≤(b.length:Int))))=true:=by simp; omega
    have hv1:=hvl h1.1 h1.2
    rw [if_pos c1,need_ok F _ c1,Option.bind_some,sub_sl b (e+2) (e+4) (by omega) (by omega),Option.bind_some,sub_sl b (e+4) (e+4+n) (by omega) (by omega),Option.bind_some,hK,Option.bind_some,hv,join_one F v (by omega) (by omega),Option.bind_some]
    unfold flash_readP_j1 flash_readP_j2
    rw [wE8 e (by omega),wE (i:=e+8) (by omega) n (by omega),wu16_id (by omega) (by omega),sub_sl b e (e+8+n) (by omega) (by omega),Option.bind_some,hw]
    show (flash_record F (K:Int) v).bind _=_
    rw [record_eq F (K:Int) v (by omega) (by omega) hvb (by omega) (by omega) hFF,Option.bind_some,equal_eq F _ _ (by rw [recB_len]; omega) (by omega),Option.bind_some]
    by_cases hr:recB K v=w
    · have cr:decide (recB K v=w)=true:=dt hr
      rw [if_pos cr,need_ok F _ cr,Option.bind_some,if_pos ⟨h1.1,h1.2,hr⟩]
    · rw [if_neg (df hr),if_neg fun h=>hr h.2.2]
  · have c1:¬ ((decide ((n:Int)≤1024))&&(decide (((e+8+n:Nat):Int)≤(b.length:Int))))=true:=by simp; omega
    rw [if_neg c1,if_neg fun h=>h1 ⟨h.1,h.2.1⟩]
theorem readP_end (F:Nat) (b:List Int) (e:Nat) (hl:b.length≤65536) (he:e≤b.length) (h8:¬ e+8≤b.length):flash_readP F b e=some none:=by
  unfold flash_readP
  rw [wE8 e (by omega),len_nat,if_neg (df (by omega))]
theorem recs_core (F:Nat) (b:List Int) (l:List T_Item) (e n K:Nat) (v w:List Int) (hl:b.length≤65536) (h8:e+8≤b.length) (hF:200000<F) (hFF:F≤FF)
    (hV:wirelessref02_Value F (sl b e (e+2))=some (n:Int)) (hn:n<65536) (hK:wirelessref02_Value F (sl b (e+2) (e+4))=some (K:Int)) (hk:K<65536)
    (hv:sl b (e+4) (e+4+n)=v) (hw:sl b e (e+8+n)=w) (hvb:∀x∈v,Byte x) (hwb:∀x∈w,Byte x) (hvl:n≤1024→e+8+n≤b.length→v.length=n) :
    wirelessref39_records_l1 F b l e=if n≤1024∧e+8+n≤b.length∧recB K v=w then (wirelessref39_Set F l K v).bind fun m=>some (.next (m,((e+8+n:Nat):Int))) else some (.done (.inr (l,(e:Int)))):=by
  unfold wirelessref39_records_l1
  rw [len_nat,wS e b.length (by omega) (by omega),if_pos (dt (by omega)),wE2 e (by omega),wE4 e (by omega),sub_sl b e (e+2) (by omega) (by omega),Option.bind_some,hV,Option.bind_some,wN n (by omega),wE8 n (by omega),wE (i:=e+4) (by omega) n (by omega),wE (i:=e) (by omega) n (by omega),wE8 (e+n) (by omega)]
  by_cases h1:n≤1024∧e+8+n≤b.length
  · have c1:¬ ((decide ((n:Int) > 1024))||(decide (((n+8:Nat):Int) > ((b.length - e:Nat):Int))))=true:=by simp; omega
    have hv1:=hvl h1.1 h1.2
    have hrb:∀x∈recB (K:Int) v,Byte x:=seal_byte (rec_in _ hvb)
    rw [if_neg c1,sub_sl b (e+2) (e+4) (by omega) (by omega),Option.bind_some,hK,Option.bind_some,sub_sl b (e+4) (e+4+n) (by omega) (by omega),Option.bind_some,hv,app_cat (by simp; omega),Option.bind_some,List.nil_append,show e+n+8=e+8+n from by omega,sub_sl b e (e+8+n) (by omega) (by omega),Option.bind_some,hw,wu16_id (by omega) (by omega),rrecord_eq F (K:Int) v (by omega) (by omega) hvb (by omega) (by omega) hFF,Option.bind_some]
    unfold wirelessref39_records_j2
    rw [wN n (by omega),wE (i:=e) (by omega) n (by omega),wE8 (e+n) (by omega),wu16_id (by omega) (by omega),show e+n+8=e+8+n from by omega,str_bytes hwb,str_bytes hrb]
    by_cases hr:recB K v=w
    · rw [if_neg (by rw [hr]; simp),if_pos ⟨h1.1,h1.2,hr⟩]
    · rw [if_pos (by simp; exact fun h=>hr h.symm),if_neg fun h=>hr h.2.2]
  · have c1:((decide ((n:Int) > 1024))||(decide (((n+8:Nat):Int) > ((b.length - e:Nat):Int))))=true:=by simp; omega
    rw [if_pos c1,if_neg fun h=>h1 ⟨h.1,h.2.1⟩]
theorem recs_end (F:Nat) (b:List Int) (l:List T_Item) (e:Nat) (hl:b.length≤65536) (he:e≤b.length) (h8:¬ e+8≤b.length):wirelessref39_records_l1 F b l e=some (.done (.inl (l,(e:Int)))):=by
  unfold wirelessref39_records_l1
  rw [len_nat,wS e b.length (by omega) (by omega),if_neg (df (by omega))]
theorem contents_eq (F:Nat) (b:List Int) (hb:∀x∈b,Byte x) (hl:b.length≤65536) (h10:10≤b.length) (hF:200000<F) (hFF:F≤FF) :
    ∃l e,flash_contents F b=some (l,((e:Nat):Int))∧wirelessref39_records F b=some (l,(e:Int))∧Lst l∧e≤b.length∧10≤e∧l.length≤e:=by
  unfold flash_contents wirelessref39_records
  obtain⟨o1,o2,h1,h2,⟨l,e,rfl,hL,he,h10',hle⟩,h3⟩:=iter_sim (b1:=fun s:List T_Item×Int=>flash_contents_l1 F b s.1 s.2) (b2:=fun s:List T_Item×Int=>wirelessref39_records_l1 F b s.1 s.2)
    (fun s t=>s=t∧∃l,∃e:Nat,s=(l,(e:Int))∧Lst l∧e≤b.length∧10≤e∧l.length≤e)
    (fun o p=>(∃l,∃e:Nat,o=(l,(e:Int))∧Lst l∧e≤b.length∧10≤e∧l.length≤e)∧(p = .inl o∨p = .inr o)) (fun s=>b.length - s.2.toNat) (by
    rintro _ _ ⟨rfl,l,e,rfl,hL,he,h10',hle⟩
    show (∃t1 t2,flash_contents_l1 F b l (e:Int)=some (.next t1)∧wirelessref39_records_l1 F b l (e:Int)=some (.next t2)∧_)∨∃o1 o2,flash_contents_l1 F b l (e:Int)=some (.done o1)∧wirelessref39_records_l1 F b l (e:Int)=some (.done o2)∧_
    unfold flash_contents_l1
    by_cases h8:e+8≤b.length
    · obtain⟨n,hn,hn1⟩:∃n:Nat,num (sl b e (e+2))=(n:Int)∧n<65536:=by
        obtain⟨h0,h1⟩:=num2 hb (i:=e) (by omega)
        generalize num (sl b e (e+2))=z at *
        exact⟨z.toNat,by omega,by omega⟩
      obtain⟨K,hk,hk1⟩:∃n:Nat,num (sl b (e+2) (e+4))=(n:Int)∧n<65536:=by
        obtain⟨h0,h1⟩:=num2 hb (i:=e+2) (by omega)
        rw [show e+2+2=e+4 from rfl] at h0 h1
        generalize num (sl b (e+2) (e+4))=z at *
        exact⟨z.toNat,by omega,by omega⟩
      have l2:(sl b e (e+2)).length=2:=by rw [sl_len (by omega) (by omega)]; omega
      have l3:(sl b (e+2) (e+4)).length=2:=by rw [sl_len (by omega) (by omega)]; omega
      have v1:flash_value F (sl b e (e+2))=some (n:Int):=by rw [value_eq F _ (sl_byte hb _ _) (by omega) (by omega),hn]
      have v2:flash_value F (sl b (e+2) (e+4))=some (K:Int):=by rw [value_eq F _ (sl_byte hb _ _) (by omega) (by omega),hk]
      have v3:wirelessref02_Value F (sl b e (e+2))=some (n:Int):=by rw [chunk_r F _ (sl_byte hb _ _) (by omega) (by omega),hn]
      have v4:wirelessref02_Value F (sl b (e+2) (e+4))=some (K:Int):=by rw [chunk_r F _ (sl_byte hb _ _) (by omega) (by omega),hk]
      clear hn hk l2 l3
      have hvb:=sl_byte hb (e+4) (e+4+n)
      have hwb:=sl_byte hb e (e+8+n)
      have hvl:n≤1024→e+8+n≤b.length→(sl b (e+4) (e+4+n)).length=n:=fun _ _=>by rw [sl_len (by omega) (by omega)]; omega
      have c1:=readP_core F b e n K _ _ hl h8 hF hFF v1 hn1 v2 hk1 rfl rfl hvb hvl
      have c2:=recs_core F b l e n K _ _ hl h8 hF hFF v3 hn1 v4 hk1 rfl rfl hvb hwb hvl
      rw [c1,c2,Option.bind_some]
      by_cases hq:n≤1024∧e+8+n≤b.length∧recB K (sl b (e+4) (e+4+n))=sl b e (e+8+n)
      · rw [if_pos hq,if_pos hq]
        have hvl2:=hvl hq.1 hq.2.1
        obtain⟨m,m1,m2,m3,m4⟩:=set_both F l ⟨K,sl b (e+4) (e+4+n)⟩ hL (by simp only; omega) (by simp only; omega) hvb (by simp only; omega) (by omega) hF
        simp only at m1 m2
        refine .inl ⟨(m,((e+8+n:Nat):Int)),(m,((e+8+n:Nat):Int)),?_,?_,⟨rfl,m,e+8+n,rfl,m3,hq.2.1,by omega,by omega⟩,by simp only; omega⟩
        · simp only [m1,Option.bind_some]
        · rw [m2,Option.bind_some]
      · rw [if_neg hq,if_neg hq]
        exact .inr ⟨_,_,rfl,rfl,⟨l,e,rfl,hL,he,h10',hle⟩,.inr rfl⟩
    · rw [readP_end F b e hl he h8,recs_end F b l e hl he h8]
      exact .inr ⟨_,_,rfl,rfl,⟨l,e,rfl,hL,he,h10',hle⟩,.inl rfl⟩) F ([],10) ([],10) ⟨rfl,[],10,rfl,lst_nil,h10,by omega,by simp⟩ (by simp only; omega)
  refine ⟨l,e,h1,?_,hL,he,h10',hle⟩
  rw [h2,Option.bind_some]
  rcases h3 with rfl | rfl <;> rfl
theorem copied_id (F:Nat) (f:T_Flash) (h1:f.Banks.1.length≤65536) (h2:f.Banks.2.length≤65536) (hF:1<F):flash_copied F f=some f:=by
  unfold flash_copied
  rw [join_one F _ hF (by omega),join_one F _ hF (by omega)]
  rfl
theorem copy_id (F:Nat) (f:T_Flash) (h1:f.Banks.1.length≤65536) (h2:f.Banks.2.length≤65536):wirelessref39_Copy F f=some f:=by
  unfold wirelessref39_Copy
  rw [app_cat (by simp; omega),app_cat (by simp; omega)]
  rfl
theorem num4 {b:List Int} (hb:∀x∈b,Byte x) (h:10≤b.length):∃n:Nat,num (sl b 2 6)=(n:Int)∧n<4294967296:=by
  have h1:=num_lt (sl_byte hb 2 6)
  have h0:=num_nonneg (sl_byte hb 2 6)
  rw [sl_len (by omega) (by omega)] at h1
  rw [show (256:Int) ^ (6 - 2)=4294967296 from rfl] at h1
  exact⟨(num (sl b 2 6)).toNat,(Int.toNat_of_nonneg h0).symm,by omega⟩
theorem count_both (F:Nat) (b:List Int) (hb:∀x∈b,Byte x) (hF:200000<F) (hFF:F≤FF):∃c:Int,flash_count F b=some c∧wirelessref39_count F b=some c∧-1≤c∧c<4294967296∧(0≤c→10≤b.length):=by
  unfold flash_count wirelessref39_count
  rw [len_nat]
  by_cases h:10≤b.length
  · have c0:¬ decide ((b.length:Int)<10)=true:=df (by omega)
    rw [if_neg c0,if_neg c0]
    have s1:sub b 2 6=some (sl b 2 6):=sub_sl b 2 6 (by omega) (by omega)
    have s2:sub b 0 10=some (sl b 0 10):=sub_sl b 0 10 (by omega) (by omega)
    obtain⟨n,hn,hn1⟩:=num4 hb h
    have l2:(sl b 2 6).length=4:=sl_len (by omega) (by omega)
    have v1:flash_value F (sl b 2 6)=some (n:Int):=by rw [value_eq F _ (sl_byte hb _ _) (by omega) (by omega),hn]
    have v2:wirelessref02_Value F (sl b 2 6)=some (n:Int):=by rw [chunk_r F _ (sl_byte hb _ _) (by omega) (by omega),hn]
    clear hn l2
    have hw:w64 (n:Int)=(n:Int):=w64_id (by omega) (by omega)
    rw [s1,Option.bind_some,Option.bind_some,v1,v2,Option.bind_some,Option.bind_some,s2,Option.bind_some,Option.bind_some,hw,header_eq F n (by omega) (by omega) (by omega) hFF,rheader_eq F n (by omega) (by omega) (by omega) hFF,Option.bind_some,Option.bind_some,equal_eq F _ _ (by rw [headB_len]; omega) (by omega),Option.bind_some]
    unfold flash_count_j1 wirelessref39_count_j1
    have hhb:∀x∈headB (n:Int),Byte x:=seal_byte (head_in _)
    rw [str_bytes (sl_byte hb 0 10),str_bytes hhb,hw]
    by_cases hq:headB (n:Int)=sl b 0 10
    · refine ⟨n,?_,?_,by omega,by omega,fun _=>h⟩
      · rw [if_neg (by simp [hq])]
      · rw [if_neg (by simp [hq])]
    · refine ⟨-1,?_,?_,by omega,by omega,fun h=>by omega⟩
      · rw [if_pos (by simp [hq])]
      · rw [if_pos (by simp; exact fun h=>hq h.symm)]
  · have c0:decide ((b.length:Int)<10)=true:=dt (by omega)
    rw [if_pos c0,if_pos c0]
    exact⟨-1,rfl,rfl,by omega,by omega,fun h=>by omega⟩
theorem upd_nat {l:List Int} {i:Nat} {x:Int} (h:i<l.length):upd l (i:Int) x=some (l.set i x):=by
  unfold upd
  rw [if_pos (by omega)]
  rfl
theorem set_rep:∀(k i:Nat),i<k→(List.replicate i (255:Int)++List.replicate (k - i) 0).set i 255=List.replicate (i+1) 255++List.replicate (k - (i+1)) 0:=fun k i h=>by
  rw [List.set_append_right _ _ (by simp),List.length_replicate,Nat.sub_self,show k - i=(k - (i+1))+1 from by omega,List.replicate_succ,List.set_cons_zero,List.replicate_succ',List.append_assoc]
  rfl
theorem rerased_eq (F:Nat) (k:Nat) (hk:k≤65536) (hF:200000<F):wirelessref39_erased F (k:Int)=some (List.replicate k 255):=by
  unfold wirelessref39_erased
  rw [mk_small (by omega) (by decide),Option.bind_some]
  have h:iter (fun s:List Int×Int=>wirelessref39_erased_l1 F (k:Int) s.1 s.2) F (List.replicate k 0,0)=some (List.replicate k 255):=iter_count (body:=fun s:List Int×Int=>wirelessref39_erased_l1 F (k:Int) s.1 s.2) (fun i=>(List.replicate i 255++List.replicate (k - i) 0,(i:Int))) k (List.replicate k 255) (by
    intro i hi
    show wirelessref39_erased_l1 F (k:Int) (List.replicate i 255++List.replicate (k - i) 0) (i:Int)=_
    unfold wirelessref39_erased_l1
    have hlen:(List.replicate i (255:Int)++List.replicate (k - i) 0).length=k:=by simp; omega
    have hx:=List.getElem?_eq_getElem (l:=List.replicate i (255:Int)++List.replicate (k - i) 0) (i:=i) (by omega)
    rw [if_pos (dt (by omega)),idx_nat,hx,Option.bind_some,upd_nat (by omega),Option.bind_some,set_rep k i hi,w64_nat i (by omega)]) (by
    show wirelessref39_erased_l1 F (k:Int) _ ((k:Nat):Int)=_
    unfold wirelessref39_erased_l1
    rw [if_neg (df (by omega)),Nat.sub_self,List.replicate_zero,List.append_nil]) F 0 (by omega) (by omega)
  rw [h]
  rfl
theorem rep_any:∀(l:List Int),(l == List.replicate l.length 255) = !(l.any fun x=>x != 255)
  | []=>rfl
  | x::l=>by
    have ih:=rep_any l
    rw [List.length_cons,List.replicate_succ,List.any_cons]
    show (x == 255&&l == List.replicate l.length 255)=_
    rw [ih]
    cases h:(x == 255) <;> simp_all
theorem tail_loop (F:Nat) (f:T_Flash) (q:List T_Item×Int) (l:List Int) (hl:l.length≤65536) (hF:200000<F):iter (fun s:Int=>flash_Mount_l1 F f q l s) F 0=some (if (l.any fun x=>x != 255)=true then len f.Banks.1 else q.2):=by
  have:=iter_any (body:=fun s:Int=>flash_Mount_l1 F f q l s) (l:=l) (p:=fun x=>x != 255) (o:=len f.Banks.1) (e:=q.2) (by
    intro i x hx
    have hi:i<l.length:=(List.getElem?_eq_some_iff.1 hx).1
    show flash_Mount_l1 F f q l (i:Int)=_
    unfold flash_Mount_l1
    rw [if_pos (dt (by rw [len_nat]; omega)),idx_nat,hx,Option.bind_some,w64_nat i (by omega)]
    by_cases hq:(x != 255)=true
    · rw [if_pos hq,if_pos hq]
    · rw [if_neg hq,if_neg hq]) (by
    show flash_Mount_l1 F f q l _=_
    unfold flash_Mount_l1
    rw [if_neg (df (by rw [len_nat]; omega))]) F 0 (by omega) (by omega)
  rw [List.drop_zero] at this
  exact this
theorem rep_byte (k:Nat):∀x∈List.replicate k (255:Int),Byte x:=fun x hx=>by
  rw [(List.mem_replicate.1 hx).2]
  exact⟨by decide,by decide⟩
theorem tail_eq {b:List Int} (hb:∀x∈b,Byte x) (e:Nat) (he:e≤b.length):(str (sl b e b.length) == str (List.replicate (b.length - e) 255)) = !((sl b e b.length).any fun x=>x != 255):=by
  rw [str_bytes (sl_byte hb _ _),str_bytes (rep_byte _),← sl_len he (Nat.le_refl _)]
  exact rep_any _
theorem m_l2:flash_Mount_l2=flash_Mount_l1:=rfl
structure Mtd (f:T_Flash) (s:T_Store):Prop where
  fl:s.Flash=f
  bk:s.Bank=0∨s.Bank=1
  e0:0≤s.End
  e1:s.End≤f.Banks.1.length
  c0:0≤s.Count
  c1:s.Count<4294967296
  it:Lst s.Items
  il:s.Items.length≤65536
  sz:f.Banks.1.length=f.Banks.2.length∧64≤f.Banks.1.length∧f.Banks.1.length≤65536
theorem bank_both (F:Nat) (f:T_Flash) (b:List Int) (hb:∀x∈b,Byte x) (hN:b.length=f.Banks.1.length) (hl:b.length≤65536) (h10:10≤b.length) (hF:200000<F) (hFF:F≤FF) :
    ∃l,∃e:Nat,∃E:Int,flash_contents F b=some (l,(e:Int))∧wirelessref39_records F b=some (l,(e:Int))∧sub b (e:Int) (len b)=some (sl b e b.length)∧
      iter (fun s:Int=>flash_Mount_l1 F f (l,(e:Int)) (sl b e b.length) s) F 0=some E∧wirelessref39_erased F (w64 (len f.Banks.1 - (e:Int)))=some (List.replicate (b.length - e) 255)∧
      (E=if (str (sl b e b.length) == str (List.replicate (b.length - e) 255))=true then (e:Int) else len f.Banks.1)∧0≤E∧E≤b.length∧Lst l∧l.length≤65536:=by
  obtain⟨l,e,h1,h2,hL,he,h10',hle⟩:=contents_eq F b hb hl h10 hF hFF
  refine ⟨l,e,(if ((sl b e b.length).any fun x=>x != 255)=true then len f.Banks.1 else (e:Int)),h1,h2,?_,?_,?_,?_,?_,?_,hL,by omega⟩
  · exact sub_sl b e b.length he (Nat.le_refl _)
  · exact tail_loop F f (l,(e:Int)) _ (by rw [sl_len he (Nat.le_refl _)]; omega) hF
  · rw [len_nat,← hN,wS e b.length he (by omega),rerased_eq F _ (by omega) hF]
  · rw [tail_eq hb e he]
    cases ((sl b e b.length).any fun x=>x != 255) <;> rfl
  · rw [len_nat]; split <;> omega
  · rw [len_nat]; split <;> omega
theorem mount_both (F:Nat) (f:T_Flash) (hb1:∀x∈f.Banks.1,Byte x) (hb2:∀x∈f.Banks.2,Byte x) (hF:200000<F) (hFF:F≤FF) :
    ∃s e,flash_Mount F f=some (s,e)∧wirelessref39_Mount F f=some (s,e)∧Lst s.Items∧(e=0∧Mtd f s∨e=5∧s.Items=[]∧¬ (f.Banks.1.length=f.Banks.2.length∧64≤f.Banks.1.length∧f.Banks.1.length≤65536)):=by
  unfold flash_Mount wirelessref39_Mount flash_fits
  rw [len_nat,len_nat]
  by_cases hv:f.Banks.1.length=f.Banks.2.length∧64≤f.Banks.1.length∧f.Banks.1.length≤65536
  · have hv':=hv
    obtain⟨v1,v2,v3⟩:=hv
    have q1:¬ (((f.Banks.2.length:Int)) != (f.Banks.1.length:Int))=true:=by simp; omega
    have q2:¬ ((((f.Banks.1.length:Int) != (f.Banks.2.length:Int))||(decide ((f.Banks.1.length:Int)<64)))||(decide ((f.Banks.1.length:Int) > 65536)))=true:=by simp; omega
    have q3:(!((decide ((f.Banks.1.length:Int)≥64))&&(decide ((f.Banks.1.length:Int)≤65536))))=false:=by simp; omega
    rw [if_neg q1,if_neg q2,Option.bind_some,q3,Option.bind_some,if_neg (by decide),copied_id F f (by omega) (by omega) (by omega),copy_id F f (by omega) (by omega),Option.bind_some,Option.bind_some]
    obtain⟨a,a1,a2,a3,a4,a5⟩:=count_both F f.Banks.1 hb1 hF hFF
    obtain⟨b,b1,b2,b3,b4,b5⟩:=count_both F f.Banks.2 hb2 hF hFF
    rw [a1,a2,b1,b2,Option.bind_some,Option.bind_some,Option.bind_some,Option.bind_some]
    unfold flash_Mount_j1 wirelessref39_Mount_j1
    by_cases hz:a<0∧b<0
    · rw [if_neg (df (by omega)),if_pos (by simp; omega)]
      unfold flash_Mount_j2
      rw [if_pos (show ((0:Int) == 0)=true from rfl),if_pos (dt hz.1)]
      exact⟨_,_,rfl,rfl,lst_nil,.inl ⟨rfl,⟨rfl,.inl rfl,by rw [len_nat]; simp only; omega,by rw [len_nat]; simp only; omega,by simp,by simp,lst_nil,by simp,hv'⟩⟩⟩
    · rw [if_neg (show ¬ ((decide (a<0))&&(decide (b<0)))=true by simp; omega)]
      unfold flash_Mount_j2 wirelessref39_Mount_j2 flash_Mount_j3
      by_cases hab:b > a
      · rw [if_pos (dt hab),if_pos (dt hab)]
        rw [if_neg (by decide),if_pos (by decide),if_neg (df (by omega)),if_neg (by decide),if_pos (by decide),if_neg (by decide),if_pos (by decide)]
        obtain⟨l,e,E,h1,h2,h3,h4,h5,h6,h7,h8,h9,h10⟩:=bank_both F f f.Banks.2 hb2 (by omega) (by omega) (by omega) hF hFF
        rw [h1,h2,Option.bind_some,Option.bind_some]
        simp only
        rw [h3,Option.bind_some,Option.bind_some,m_l2,h4,h5,Option.bind_some,Option.bind_some]
        unfold flash_Mount_j5 wirelessref39_Mount_j6 wirelessref39_Mount_j5
        refine ⟨T_Store.mk f 1 b E l,0,rfl,?_,h9,.inl ⟨rfl,⟨rfl,.inr rfl,h7,by simp only; omega,by simp only; omega,by simp only; omega,h9,h10,hv'⟩⟩⟩
        rw [h6]
        split <;> rfl
      · rw [if_neg (df hab),if_neg (df hab)]
        rw [if_pos (by decide),if_neg (df (by omega)),if_pos (by decide),if_pos (by decide)]
        obtain⟨l,e,E,h1,h2,h3,h4,h5,h6,h7,h8,h9,h10⟩:=bank_both F f f.Banks.1 hb1 rfl (by omega) (by omega) hF hFF
        rw [h1,h2,Option.bind_some,Option.bind_some]
        simp only
        rw [h3,Option.bind_some,Option.bind_some,h4,h5,Option.bind_some,Option.bind_some]
        unfold flash_Mount_j4 wirelessref39_Mount_j4 wirelessref39_Mount_j3
        refine ⟨T_Store.mk f 0 a E l,0,rfl,?_,h9,.inl ⟨rfl,⟨rfl,.inl rfl,h7,by simp only; omega,by simp only; omega,by simp only; omega,h9,h10,hv'⟩⟩⟩
        rw [h6]
        split <;> rfl
  · have q2:((((f.Banks.1.length:Int) != (f.Banks.2.length:Int))||(decide ((f.Banks.1.length:Int)<64)))||(decide ((f.Banks.1.length:Int) > 65536)))=true:=by simp; omega
    rw [if_pos q2]
    have q1:((if (((f.Banks.2.length:Int)) != (f.Banks.1.length:Int))=true then some true else (some ((decide ((f.Banks.1.length:Int)≥64))&&(decide ((f.Banks.1.length:Int)≤65536)))).bind fun x=>some (!x)):Option Bool)=some true:=by
      by_cases h:f.Banks.2.length=f.Banks.1.length
      · rw [if_neg (by simp; omega),Option.bind_some]
        congr 1
        simp
        omega
      · rw [if_pos (by simp; omega)]
    rw [q1,Option.bind_some,if_pos rfl]
    exact⟨_,_,rfl,rfl,lst_nil,.inr ⟨rfl,rfl,hv⟩⟩
def got:Option T_Item→List Int×Bool
  | none=>([],false)
  | some x=>(x.Value,true)
theorem rget_eq (F:Nat) (s:T_Store) (k:Int) (hs:∀x∈s.Items,x.Value.length≤100000) (hl:s.Items.length≤100000) (hF:200000<F):wirelessref39_Get F s k=some (got (s.Items.find? fun x=>x.Key == k)):=by
  have key:∀(f i:Nat),i≤s.Items.length→s.Items.length - i<f→iter (fun z:Int=>wirelessref39_Get_l1 F s k z) f (i:Int)=some (match (s.Items.drop i).find? (fun x=>x.Key == k) with | none=>.inl () | some x=>.inr (x.Value,true)):=by
    intro f
    induction f with
    | zero=>intro i _ h; omega
    | succ f ih=>
      intro i hi hf
      by_cases hin:i<s.Items.length
      · have hx:s.Items[i]? = some s.Items[i]:=List.getElem?_eq_getElem hin
        have hdr:s.Items.drop i=s.Items[i]::s.Items.drop (i+1):=List.drop_eq_getElem_cons hin
        have hvl:=hs _ (List.getElem_mem hin)
        generalize s.Items[i]=x at hx hdr hvl
        have hb:wirelessref39_Get_l1 F s k (i:Int)=some (if (x.Key == k)=true then .done (.inr (x.Value,true)) else .next ((i+1:Nat):Int)):=by
          unfold wirelessref39_Get_l1
          rw [if_pos (dt (by rw [len_nat]; omega)),idx_nat,hx,Option.bind_some,Option.bind_some,app_cat (by simp; omega),Option.bind_some,List.nil_append,w64_nat i (by omega)]
          split <;> rfl
        by_cases hp:(x.Key == k)=true
        · rw [if_pos hp] at hb
          rw [iter_stop hb,hdr,List.find?_cons,hp]
        · rw [if_neg hp] at hb
          rw [iter_step hb,ih (i+1) hin (by omega),hdr,List.find?_cons,(Bool.not_eq_true _).mp hp]
      · have:i=s.Items.length:=by omega
        subst this
        rw [iter_stop (o:=.inl ()) (by unfold wirelessref39_Get_l1; rw [if_neg (df (by rw [len_nat]; omega))]),List.drop_length]
        rfl
  unfold wirelessref39_Get
  have:=key F 0 (by omega) (by omega)
  rw [show ((0:Nat):Int)=0 from rfl,List.drop_zero] at this
  rw [this,Option.bind_some]
  cases s.Items.find? fun x=>x.Key == k <;> rfl
theorem get_eq (F:Nat) (s:T_Store) (k:Int) (h:Lst s.Items) (hl:s.Items.length≤100000) (hF:200000<F):flash_Get F s k=some (got (s.Items.find? fun x=>x.Key == k)):=by
  unfold flash_Get
  obtain⟨ho,hok⟩:=h
  generalize s.Items=l at *
  obtain⟨a,b,rfl,ha,hb⟩:=split_at k l ho
  rw [place_eq F a b k ha hb hl hF,Option.bind_some]
  have hna:a.find? (fun x=>x.Key == k)=none:=List.find?_eq_none.2 fun x hx=>by have:=ha x hx; simp; omega
  rw [List.find?_append,hna,Option.none_or]
  cases b with
  | nil=>rfl
  | cons c b=>
    have hc:=(hok c (by simp)).vl
    by_cases hk:c.Key=k
    · have hq:(c.Key == k)=true:=by simp [hk]
      rw [List.find?_cons,hq]
      show (if (!(c.Key == k))=true then _ else _)=_
      rw [hq,if_neg (by decide)]
      simp only
      rw [idx_nat,List.getElem?_append_right (Nat.le_refl _),Nat.sub_self,List.getElem?_cons_zero,Option.bind_some,join_one F _ (by omega) (by omega),Option.bind_some]
      rfl
    · have hq:(c.Key == k)=false:=by simp [hk]
      rw [List.find?_cons,hq]
      show (if (!(c.Key == k))=true then _ else _)=_
      rw [hq,if_pos (by decide)]
      have hbb:b.find? (fun x=>x.Key == k)=none:=List.find?_eq_none.2 fun x hx=>by
        have h1:=(List.pairwise_cons.1 (List.pairwise_append.1 ho).2.1).1 x hx
        have h2:=hb c (by simp)
        simp
        omega
      rw [hbb]
      rfl
theorem iand8 (x y:Int):Byte (iand .u8 x y):=by
  unfold iand
  rw [wrap_u8]
  unfold wu8
  exact⟨Int.emod_nonneg _ (by decide),Int.emod_lt_of_pos _ (by decide)⟩
theorem set_byte {l:List Int} (h:∀x∈l,Byte x) (i:Nat) {y:Int} (hy:Byte y):∀x∈l.set i y,Byte x:=fun x hx=>by
  rcases List.mem_or_eq_of_mem_set hx with hx | rfl
  · exact h x hx
  · exact hy
def eff (n all:Int):Int:=if n<0∨n > all then all else n
def I64 (x:Int):Prop:=-9223372036854775808≤x∧x<9223372036854775808
theorem write1 (F:Nat) (w:T_Write) (n:Int) (b:List Int) (he:w.Erase=false) (hB:w.Bytes.length≤65536) (hb:b.length≤65536) (ho:I64 w.Offset) (hF:200000<F) :
    ∃o,iter (fun s:List Int×Int=>flash_Apply_l1 F w (eff n w.Bytes.length) s.1 s.2) F (b,0)=some o∧iter (fun s:List Int×Int=>wirelessref39_Apply_l1 F w n s.1 s.2) F (b,0)=some o∧o.length=b.length∧((∀x∈b,Byte x)→∀x∈o,Byte x):=by
  obtain⟨o0,o1⟩:=ho
  obtain⟨o1,o2,h1,h2,h3,h4,h5⟩:=iter_sim (b1:=fun s:List Int×Int=>flash_Apply_l1 F w (eff n w.Bytes.length) s.1 s.2) (b2:=fun s:List Int×Int=>wirelessref39_Apply_l1 F w n s.1 s.2)
    (fun s t=>s=t∧(s.1.length=b.length∧((∀x∈b,Byte x)→∀x∈s.1,Byte x))∧∃i:Nat,s.2=(i:Int)∧i≤w.Bytes.length) (fun o p=>o=p∧o.length=b.length∧((∀x∈b,Byte x)→∀x∈o,Byte x)) (fun s=>w.Bytes.length - s.2.toNat) (by
    rintro⟨l,at_⟩ _ ⟨rfl,⟨hl,hby⟩,i,hi,hil⟩
    simp only at hl hi hby
    subst hi
    show (∃t1 t2,flash_Apply_l1 F w (eff n w.Bytes.length) l (i:Int)=some (.next t1)∧wirelessref39_Apply_l1 F w n l (i:Int)=some (.next t2)∧_)∨∃o1 o2,flash_Apply_l1 F w (eff n w.Bytes.length) l (i:Int)=some (.done o1)∧wirelessref39_Apply_l1 F w n l (i:Int)=some (.done o2)∧_
    unfold flash_Apply_l1 wirelessref39_Apply_l1 flash_Apply_j4 wirelessref39_Apply_j4 wirelessref39_Apply_j3
    have hn:=len_nat l
    have hnB:=len_nat w.Bytes
    by_cases hc:i<w.Bytes.length∧(n<0∨(i:Int)<n)
    · have hlt:(i:Int)<eff n w.Bytes.length:=by
        unfold eff
        split <;> omega
      have hr:((decide ((i:Int)<(len w.Bytes)))&&((decide (n<0))||(decide ((i:Int)<n))))=true:=by simp; omega
      rw [if_pos (dt hlt),he,if_neg (by decide:¬ (false=true)),if_pos hr]
      have hx:w.Bytes[i]? = some w.Bytes[i]:=List.getElem?_eq_getElem hc.1
      have hw1:=w64_nat i (by omega)
      by_cases ha:0≤w.Offset∧w.Offset<(l.length:Int) - i
      · have hwo:w64 (w.Offset+i)=w.Offset+i:=w64_id (by omega) (by omega)
        have hwl:w64 (len l - i)=(l.length:Int) - i:=by rw [hn]; exact w64_id (by omega) (by omega)
        obtain⟨j,hj⟩:=Int.eq_ofNat_of_zero_le (a:=w.Offset+i) (by omega)
        have hjl:j<l.length:=by omega
        have hy:l[j]? = some l[j]:=List.getElem?_eq_getElem hjl
        have q1:(((decide (w.Offset<(len l)))&&(decide ((j:Int)≥0)))&&(decide ((j:Int)<(len l))))=true:=by simp; omega
        have q2:((decide (w.Offset≥0))&&(decide (w.Offset<(l.length:Int) - i)))=true:=by simp; omega
        have q3:∀z:List Int,¬ (((decide (w.Offset<0))&&(decide ((j:Int)≥0)))&&(decide ((j:Int)<(len z))))=true:=fun z=>by simp; omega
        rw [hwo,hwl,hj,if_pos q1,if_pos q2]
        simp only [idx_nat,hx,hy,Option.bind_some,upd_nat hjl]
        rw [if_neg (q3 _),hw1]
        exact .inl ⟨_,_,rfl,rfl,⟨rfl,⟨by simp [hl],fun hq=>set_byte (hby hq) _ (iand8 _ _)⟩,i+1,rfl,by omega⟩,by simp only; omega⟩
      · by_cases hd:w.Offset<0∧0≤w.Offset+i∧w.Offset+i<l.length
        · have hwo:w64 (w.Offset+i)=w.Offset+i:=w64_id (by omega) (by omega)
          obtain⟨j,hj⟩:=Int.eq_ofNat_of_zero_le (a:=w.Offset+i) (by omega)
          have hjl:j<l.length:=by omega
          have hy:l[j]? = some l[j]:=List.getElem?_eq_getElem hjl
          have q1:(((decide (w.Offset<(len l)))&&(decide ((j:Int)≥0)))&&(decide ((j:Int)<(len l))))=true:=by simp; omega
          have q2:¬ ((decide (w.Offset≥0))&&(decide (w.Offset<w64 (len l - i))))=true:=by
            rw [decide_eq_false (by omega:¬ w.Offset≥0)]
            simp
          have q3:(((decide (w.Offset<0))&&(decide ((j:Int)≥0)))&&(decide ((j:Int)<(len l))))=true:=by simp; omega
          rw [hwo,hj,if_pos q1,if_neg q2,if_pos q3]
          simp only [idx_nat,hx,hy,Option.bind_some,upd_nat hjl]
          rw [hw1]
          exact .inl ⟨_,_,rfl,rfl,⟨rfl,⟨by simp [hl],fun hq=>set_byte (hby hq) _ (iand8 _ _)⟩,i+1,rfl,by omega⟩,by simp only; omega⟩
        · have hwl:w64 (len l - i)=(l.length:Int) - i:=by rw [hn]; exact w64_id (by omega) (by omega)
          have hno:¬ (((decide (w.Offset<(len l)))&&(decide ((w64 (w.Offset+i))≥0)))&&(decide ((w64 (w.Offset+i))<(len l))))=true:=by
            by_cases h0:w.Offset<len l
            · rw [w64_id (x:=w.Offset+i) (by omega) (by omega)]
              simp
              omega
            · simp [h0]
          have hno2:¬ (((decide (w.Offset<0))&&(decide ((w64 (w.Offset+i))≥0)))&&(decide ((w64 (w.Offset+i))<(len l))))=true:=by
            by_cases h0:w.Offset<0
            · rw [w64_id (x:=w.Offset+i) (by omega) (by omega)]
              simp
              omega
            · simp [h0]
          have hno3:¬ ((decide (w.Offset≥0))&&(decide (w.Offset<(l.length:Int) - i)))=true:=by simp; omega
          rw [if_neg hno,hwl,if_neg hno3,if_neg hno2,hw1]
          exact .inl ⟨_,_,rfl,rfl,⟨rfl,⟨hl,hby⟩,i+1,rfl,by omega⟩,by simp only; omega⟩
    · have hlt:¬ (i:Int)<eff n w.Bytes.length:=by
        unfold eff
        split <;> omega
      have hr:¬ ((decide ((i:Int)<(len w.Bytes)))&&((decide (n<0))||(decide ((i:Int)<n))))=true:=by simp; omega
      rw [if_neg (df hlt),if_neg hr]
      exact .inr ⟨_,_,rfl,rfl,rfl,hl,hby⟩) F (b,0) (b,0) ⟨rfl,⟨rfl,fun h=>h⟩,0,rfl,by omega⟩ (by simp; omega)
  subst h3
  exact⟨o1,h1,h2,h4,h5⟩
theorem erase1 (F:Nat) (w:T_Write) (n:Int) (b:List Int) (he:w.Erase=true) (hb:b.length≤65536) (hF:200000<F) :
    ∃o,iter (fun s:List Int×Int=>flash_Apply_l1 F w (eff n b.length) s.1 s.2) F (b,0)=some o∧iter (fun s:List Int×Int=>wirelessref39_Apply_l2 F n s.1 s.2) F (b,0)=some o∧o.length=b.length∧((∀x∈b,Byte x)→∀x∈o,Byte x):=by
  obtain⟨o1,o2,h1,h2,h3,h4,h5⟩:=iter_sim (b1:=fun s:List Int×Int=>flash_Apply_l1 F w (eff n b.length) s.1 s.2) (b2:=fun s:List Int×Int=>wirelessref39_Apply_l2 F n s.1 s.2)
    (fun s t=>s=t∧(s.1.length=b.length∧((∀x∈b,Byte x)→∀x∈s.1,Byte x))∧∃i:Nat,s.2=(i:Int)∧i≤b.length) (fun o p=>o=p∧o.length=b.length∧((∀x∈b,Byte x)→∀x∈o,Byte x)) (fun s=>b.length - s.2.toNat) (by
    rintro⟨l,at_⟩ _ ⟨rfl,⟨hl,hby⟩,i,hi,hil⟩
    simp only at hl hi hby
    subst hi
    show (∃t1 t2,flash_Apply_l1 F w (eff n b.length) l (i:Int)=some (.next t1)∧wirelessref39_Apply_l2 F n l (i:Int)=some (.next t2)∧_)∨∃o1 o2,flash_Apply_l1 F w (eff n b.length) l (i:Int)=some (.done o1)∧wirelessref39_Apply_l2 F n l (i:Int)=some (.done o2)∧_
    unfold flash_Apply_l1 wirelessref39_Apply_l2 flash_Apply_j4
    have hn:=len_nat l
    by_cases hc:i<b.length∧(n<0∨(i:Int)<n)
    · have hlt:(i:Int)<eff n b.length:=by
        unfold eff
        split <;> omega
      have hx:l[i]? = some l[i]:=List.getElem?_eq_getElem (by omega)
      have hr:((decide ((i:Int)<(len l)))&&((decide (n<0))||(decide ((i:Int)<n))))=true:=by simp; omega
      rw [if_pos (dt hlt),he,if_pos rfl,if_pos hr,idx_nat,hx,Option.bind_some,upd_nat (by omega),Option.bind_some,w64_nat i (by omega)]
      exact .inl ⟨_,_,rfl,rfl,⟨rfl,⟨by simp [hl],fun hq=>set_byte (hby hq) _ ⟨by decide,by decide⟩⟩,i+1,rfl,by omega⟩,by simp only; omega⟩
    · have hlt:¬ (i:Int)<eff n b.length:=by
        unfold eff
        split <;> omega
      have hr:¬ ((decide ((i:Int)<(len l)))&&((decide (n<0))||(decide ((i:Int)<n))))=true:=by simp; omega
      rw [if_neg (df hlt),if_neg hr]
      exact .inr ⟨_,_,rfl,rfl,rfl,hl,hby⟩) F (b,0) (b,0) ⟨rfl,⟨rfl,fun h=>h⟩,0,rfl,by omega⟩ (by simp; omega)
  subst h3
  exact⟨o1,h1,h2,h4,h5⟩
theorem flash_l2:flash_Apply_l2=flash_Apply_l1:=rfl
theorem ref_l3:wirelessref39_Apply_l3=wirelessref39_Apply_l1:=rfl
theorem ref_l4:wirelessref39_Apply_l4=wirelessref39_Apply_l2:=rfl
theorem eff_iff (n all:Int):(if ((decide (n<0))||(decide (n > all)))=true then all else n)=eff n all:=by
  unfold eff
  simp
theorem j1_eff (F:Nat) (w:T_Write) (n:Int) (f:T_Flash) (all:Int):flash_Apply_j1 F w n f all=flash_Apply_j2 F w f (eff n all):=by
  unfold flash_Apply_j1
  rw [← eff_iff]
  split <;> rfl
theorem j5_eff (F:Nat) (w:T_Write) (n:Int) (f:T_Flash) (all:Int):flash_Apply_j5 F w n f all=flash_Apply_j6 F w f (eff n all):=by
  unfold flash_Apply_j5
  rw [← eff_iff]
  split <;> rfl
theorem apply_same (F:Nat) (f:T_Flash) (w:T_Write) (n:Int) (h1:f.Banks.1.length≤65536) (h2:f.Banks.2.length≤65536) (hB:w.Bytes.length≤65536) (ho:I64 w.Offset) (hF:200000<F) :
    ∃o,flash_Apply F f w n=some o∧wirelessref39_Apply F f w n=some o∧o.Banks.1.length=f.Banks.1.length∧o.Banks.2.length=f.Banks.2.length∧((∀x∈f.Banks.1,Byte x)→∀x∈o.Banks.1,Byte x)∧((∀x∈f.Banks.2,Byte x)→∀x∈o.Banks.2,Byte x):=by
  unfold flash_Apply wirelessref39_Apply
  rw [copied_id F f h1 h2 (by omega),copy_id F f h1 h2,Option.bind_some,Option.bind_some]
  by_cases hb:w.Bank<0∨w.Bank > 1
  · have q1:((w.Bank != 0)&&(w.Bank != 1))=true:=by simp; omega
    have q2:((decide (w.Bank<0))||(decide (w.Bank > 1)))=true:=by simp; omega
    rw [if_pos q1,if_pos q2]
    exact⟨f,rfl,rfl,rfl,rfl,fun h=>h,fun h=>h⟩
  · have q1:¬ ((w.Bank != 0)&&(w.Bank != 1))=true:=by simp; omega
    have q2:¬ ((decide (w.Bank<0))||(decide (w.Bank > 1)))=true:=by simp; omega
    rw [if_neg q1,if_neg q2]
    by_cases h0:w.Bank=0
    · have q3:(w.Bank == 0)=true:=by simp [h0]
      rw [if_pos q3,if_pos q3]
      cases he:w.Erase
      · rw [if_neg (by decide),if_neg (by decide),j1_eff]
        obtain⟨o,e1,e2,e3,e4⟩:=write1 F w n f.Banks.1 he hB h1 ho hF
        unfold flash_Apply_j2 wirelessref39_Apply_j1
        rw [len_nat,e1,e2]
        exact⟨_,rfl,rfl,e3,rfl,e4,fun h=>h⟩
      · rw [if_pos rfl,if_pos rfl,j1_eff]
        obtain⟨o,e1,e2,e3,e4⟩:=erase1 F w n f.Banks.1 he h1 hF
        unfold flash_Apply_j2
        rw [len_nat,e1,e2]
        exact⟨_,rfl,rfl,e3,rfl,e4,fun h=>h⟩
    · have q3:¬ (w.Bank == 0)=true:=by simp [h0]
      have q4:(w.Bank == 1)=true:=by simp; omega
      rw [if_neg q3,if_neg q3,if_pos q4,if_pos q4]
      cases he:w.Erase
      · rw [if_neg (by decide),if_neg (by decide),j5_eff]
        obtain⟨o,e1,e2,e3,e4⟩:=write1 F w n f.Banks.2 he hB h2 ho hF
        unfold flash_Apply_j6 wirelessref39_Apply_j6
        rw [flash_l2,ref_l3,len_nat,e1,e2]
        exact⟨_,rfl,rfl,rfl,e3,fun h=>h,e4⟩
      · rw [if_pos rfl,if_pos rfl,j5_eff]
        obtain⟨o,e1,e2,e3,e4⟩:=erase1 F w n f.Banks.2 he h2 hF
        unfold flash_Apply_j6
        rw [flash_l2,ref_l4,len_nat,e1,e2]
        exact⟨_,rfl,rfl,rfl,e3,fun h=>h,e4⟩
def recs (l:List T_Item):List Int:=(l.map fun x=>recB x.Key x.Value).flatten
theorem recs_snoc (l:List T_Item) (x:T_Item):recs (l++[x])=recs l++recB x.Key x.Value:=by simp [recs]
theorem recs_len:∀(l:List T_Item),(∀x∈l,OkI x)→(recs l).length≤1032 * l.length
  | [],_=>by simp [recs]
  | x::l,h=>by
    have h1:=(h x (by simp)).vl
    have h2:=recs_len l fun y hy=>h y (by simp [hy])
    have e:(recs (x::l)).length=(recB x.Key x.Value).length+(recs l).length:=by simp [recs]
    rw [e,recB_len,List.length_cons]
    omega
theorem recs_byte (l:List T_Item) (h:∀x∈l,OkI x):∀b∈recs l,Byte b:=fun b hb=>by
  obtain⟨y,hy,hby⟩:=List.mem_flatten.1 hb
  obtain⟨x,hx,rfl⟩:=List.mem_map.1 hy
  exact seal_byte (rec_in _ (h x hx).vb) b hby
theorem all_f (F:Nat) (l:List T_Item) (h:∀x∈l,OkI x) (hl:l.length≤100000) (hF:200000<F) (hFF:F≤FF):iter (fun s:List Int×Int=>flash_Plan_l1 F l s.1 s.2) F ([],0)=some (recs l):=by
  have:=iter_count (body:=fun s:List Int×Int=>flash_Plan_l1 F l s.1 s.2) (fun i=>(recs (l.take i),(i:Int))) l.length (recs l) (by
    intro i hi
    have hx:l[i]? = some l[i]:=List.getElem?_eq_getElem hi
    have hok:=h _ (List.getElem_mem hi)
    have hn:=recs_len (l.take i) fun y hy=>h y (List.mem_of_mem_take hy)
    have htl:(l.take i).length≤i:=by simp; omega
    rw [List.take_add_one,hx,Option.toList_some,recs_snoc]
    generalize l[i]=x at *
    show flash_Plan_l1 F l (recs (l.take i)) (i:Int)=_
    unfold flash_Plan_l1
    have hvl:=hok.vl
    rw [if_pos (dt (by rw [len_nat]; omega)),idx_nat,hx,Option.bind_some,record_eq F x.Key x.Value hok.k0 hok.k1 hok.vb (by omega) (by omega) hFF,Option.bind_some,app_cat (by rw [recB_len]; omega),Option.bind_some,w64_nat i (by omega)]) (by
    show flash_Plan_l1 F l _ _=_
    unfold flash_Plan_l1
    rw [if_neg (df (by rw [len_nat]; omega)),List.take_length]) F 0 (by omega) (by omega)
  exact this
theorem all_r (F:Nat) (l:List T_Item) (h:∀x∈l,OkI x) (hl:l.length≤100000) (hF:200000<F) (hFF:F≤FF):iter (fun s:List Int×Int=>wirelessref39_Plan_l1 F l s.1 s.2) F ([],0)=some (recs l):=by
  have:=iter_count (body:=fun s:List Int×Int=>wirelessref39_Plan_l1 F l s.1 s.2) (fun i=>(recs (l.take i),(i:Int))) l.length (recs l) (by
    intro i hi
    have hx:l[i]? = some l[i]:=List.getElem?_eq_getElem hi
    have hok:=h _ (List.getElem_mem hi)
    have hn:=recs_len (l.take i) fun y hy=>h y (List.mem_of_mem_take hy)
    have htl:(l.take i).length≤i:=by simp; omega
    rw [List.take_add_one,hx,Option.toList_some,recs_snoc]
    generalize l[i]=x at *
    show wirelessref39_Plan_l1 F l (recs (l.take i)) (i:Int)=_
    unfold wirelessref39_Plan_l1
    have hvl:=hok.vl
    rw [if_pos (dt (by rw [len_nat]; omega)),idx_nat,hx,Option.bind_some,Option.bind_some,rrecord_eq F x.Key x.Value hok.k0 hok.k1 hok.vb (by omega) (by omega) hFF,Option.bind_some,app_cat (by rw [recB_len]; omega),Option.bind_some,w64_nat i (by omega)]) (by
    show wirelessref39_Plan_l1 F l _ _=_
    unfold wirelessref39_Plan_l1
    rw [if_neg (df (by rw [len_nat]; omega)),List.take_length]) F 0 (by omega) (by omega)
  exact this
def same (l:List T_Item) (k:Int) (v:List Int):Bool:=match l.find? (fun x=>x.Key == k) with
  | none=>decide (v=[])
  | some x=>decide (x.Value=v)
theorem same_f (F:Nat) (l:List T_Item) (k:Int) (v:List Int) (h:∀x∈l,OkI x) (hF:200000<F) (hv:v.length≤1024) :
    (if ((got (l.find? fun x=>x.Key == k)).2 == (decide ((len v) > 0)))=true then (slices_Equal_byte_byte F (got (l.find? fun x=>x.Key == k)).1 v).bind fun x_20=>some (x_20) else some (false))=some (same l k v):=by
  unfold same
  have hd1:decide (len v > 0) = !decide (v=[]):=by
    cases v with
    | nil=>rfl
    | cons _ _=>simp [len]
  cases hf:l.find? fun x=>x.Key == k with
  | none=>
    show (if (false == (decide ((len v) > 0)))=true then (slices_Equal_byte_byte F [] v).bind fun x_20=>some (x_20) else some (false))=some (decide (v=[]))
    rw [hd1]
    by_cases hz:v=[]
    · subst hz
      rw [if_pos (by decide),equal_eq F _ _ (by simp) hF]
      rfl
    · rw [if_neg (by simp [hz])]
      simp [hz]
  | some x=>
    have hx:=h x (List.mem_of_find?_eq_some hf)
    show (if (true == (decide ((len v) > 0)))=true then (slices_Equal_byte_byte F x.Value v).bind fun x_20=>some (x_20) else some (false))=some (decide (x.Value=v))
    rw [hd1]
    have hvl:=hx.vl
    by_cases hz:v=[]
    · rw [if_neg (by simp [hz])]
      subst hz
      simp [hx.vn]
    · rw [if_pos (by simp [hz]),equal_eq F _ _ (by omega) hF]
      rfl
theorem same_r (l:List T_Item) (k:Int) (v:List Int) (h:∀x∈l,OkI x) (hvb:∀x∈v,Byte x) :
    ((if (got (l.find? fun x=>x.Key == k)).2=true then some (((str (got (l.find? fun x=>x.Key == k)).1) == (str v))) else some (false)):Option Bool).bind (fun z=>some (z||((!(got (l.find? fun x=>x.Key == k)).2)&&((len v) == 0))))=some (same l k v):=by
  unfold same
  cases hf:l.find? fun x=>x.Key == k with
  | none=>
    show ((some false:Option Bool).bind fun z=>some (z||(!false&&(len v == 0))))=some (decide (v=[]))
    cases v with
    | nil=>rfl
    | cons _ _=>simp [len]; omega
  | some x=>
    have hx:=h x (List.mem_of_find?_eq_some hf)
    show ((some (str x.Value == str v):Option Bool).bind fun z=>some (z||(!true&&(len v == 0))))=some (decide (x.Value=v))
    rw [str_bytes hx.vb,str_bytes hvb,Option.bind_some]
    by_cases hq:x.Value=v
    · simp [hq]
    · simp [hq]
theorem plan_w1 (n:Nat) (h:n≤200000000):w64 (10+(n:Int))=10+n:=w64_id (by omega) (by omega)
theorem plan_w2 (n:Nat) (h:n≤200000000):w64 ((n:Int)+10)=n+10:=w64_id (by omega) (by omega)
theorem plan_w3 {b:Int} (h0:0≤b) (h1:b≤1):w64 (1 - b)=1 - b:=w64_id (by omega) (by omega)
theorem plan_w4 {b:Int} (h0:0≤b) (h1:b<4294967296):w64 (b+1)=b+1:=w64_id (by omega) (by omega)
inductive PlanOk (s:T_Store) (k:Int) (v:List Int) (m:List T_Item):List T_Write→Int→Prop where
  | long (h:1024<v.length):PlanOk s k v m [] 4
  | same (h:same s.Items k v=true) (hv:v.length≤1024):PlanOk s k v m [] 0
  | app (hv:v.length≤1024) (h:((recB k v).length:Int)≤s.Flash.Banks.1.length - s.End):PlanOk s k v m [⟨s.Bank,false,s.End,recB k v⟩] 0
  | full (hv:v.length≤1024):PlanOk s k v m [] 8
  | new (hv:v.length≤1024) (h:10+(recs m).length≤s.Flash.Banks.1.length) (hc:s.Count<4294967295):PlanOk s k v m [⟨1 - s.Bank,true,0,[]⟩,⟨1 - s.Bank,false,10,recs m⟩,⟨1 - s.Bank,false,0,headB (s.Count+1)⟩] 0
theorem plan_both (F:Nat) (f:T_Flash) (s:T_Store) (hm:Mtd f s) (hf:f.Banks.1.length≤65536) (k:Int) (k0:0≤k) (k1:k<65536) (v:List Int) (hvb:∀x∈v,Byte x) (hF:200000<F) (hFF:F≤FF) :
    ∃m ws e,(v.length≤1024→wirelessref39_Set F s.Items k v=some m)∧flash_Plan F s k v=some (ws,e)∧wirelessref39_Plan F s k v=some (ws,e)∧PlanOk s k v m ws e∧(v.length≤1024→Lst m∧m.length≤s.Items.length+1):=by
  obtain⟨hfl,hbk,he0,he1,hc0,hc1,hit,hil,hsz⟩:=hm
  unfold flash_Plan wirelessref39_Plan
  rw [len_nat]
  by_cases hv:v.length≤1024
  · have c0:¬ decide ((v.length:Int) > 1024)=true:=df (by omega)
    rw [if_neg c0,if_neg c0]
    rw [get_eq F s k hit (by omega) hF,rget_eq F s k (fun x hx=>by have:=(hit.ok x hx).vl; omega) (by omega) hF,Option.bind_some,Option.bind_some]
    obtain⟨m,m1,m2,m3,m4⟩:=set_both F s.Items ⟨k,v⟩ hit k0 k1 hvb hv (by omega) hF
    have hsf:=same_f F s.Items k v hit.ok hF hv
    have hsr:=same_r s.Items k v hit.ok hvb
    rw [len_nat] at hsf
    rw [hsf,Option.bind_some]
    generalize (if (got (s.Items.find? fun x=>x.Key == k)).2=true then some ((str (got (s.Items.find? fun x=>x.Key == k)).1) == (str v)) else some (false):Option Bool)=q at hsr ⊢
    cases q with
    | none=>cases hsr
    | some q=>
      rw [Option.bind_some,Option.some.injEq] at hsr
      rw [len_nat] at hsr
      rw [Option.bind_some,hsr]
      by_cases hs:same s.Items k v=true
      · rw [if_pos hs,if_pos hs]
        exact⟨m,[],0,fun _=>m2,rfl,rfl,.same hs hv,fun _=>⟨m3,m4⟩⟩
      · rw [if_neg hs,if_neg hs]
        rw [record_eq F k v k0 k1 hvb (by omega) (by omega) hFF,rrecord_eq F k v k0 k1 hvb (by omega) (by omega) hFF,Option.bind_some,Option.bind_some]
        unfold flash_Free flash_size flash_Free_j1
        rw [Option.bind_some,Option.bind_some,len_nat,len_nat,hfl]
        have hw:w64 ((f.Banks.1.length:Int) - s.End)=(f.Banks.1.length:Int) - s.End:=w64_id (by omega) (by omega)
        rw [hw]
        clear hw
        by_cases hr:((recB k v).length:Int)≤f.Banks.1.length - s.End
        · rw [if_pos (dt hr),if_pos (dt hr)]
          exact⟨m,_,0,fun _=>m2,rfl,rfl,.app hv (by rw [hfl]; exact hr),fun _=>⟨m3,m4⟩⟩
        · rw [if_neg (df hr),if_neg (df hr)]
          unfold slices_Clone_api_Item_api_Item
          rw [app_small (by simp; omega) (by decide),List.nil_append,Option.bind_some,Option.bind_some,m1,Option.bind_some]
          simp only at m2
          rw [m2,Option.bind_some,all_f F m m3.ok (by omega) hF hFF,all_r F m m3.ok (by omega) hF hFF,Option.bind_some,Option.bind_some]
          unfold flash_Plan_j1 wirelessref39_Plan_j1 flash_size
          have hml:=recs_len m m3.ok
          rw [Option.bind_some,len_nat,len_nat,hfl]
          have hk1:(recs m).length≤200000000:=by omega
          have hb0:0≤s.Bank∧s.Bank≤1:=by omega
          generalize hR:recs m=R at *
          rw [plan_w1 R.length hk1,plan_w2 R.length hk1,plan_w3 hb0.1 hb0.2,plan_w4 hc0 hc1]
          by_cases hn:10+R.length≤f.Banks.1.length∧s.Count<4294967295
          · have c1:¬ ((decide ((10+(R.length:Int)) > (f.Banks.1.length:Int)))||(decide (s.Count≥4294967295)))=true:=by simp; omega
            have c2:¬ ((decide (((R.length:Int)+10) > (f.Banks.1.length:Int)))||(s.Count == 4294967295))=true:=by simp; omega
            rw [if_neg c1,if_neg c2,header_eq F _ (by omega) (by omega) (by omega) hFF,rheader_eq F _ (by omega) (by omega) (by omega) hFF,Option.bind_some]
            subst hR
            exact⟨m,_,0,fun _=>rfl,rfl,rfl,.new hv (by rw [hfl]; exact hn.1) hn.2,fun _=>⟨m3,m4⟩⟩
          · have c1:((decide ((10+(R.length:Int)) > (f.Banks.1.length:Int)))||(decide (s.Count≥4294967295)))=true:=by simp; omega
            have c2:((decide (((R.length:Int)+10) > (f.Banks.1.length:Int)))||(s.Count == 4294967295))=true:=by simp; omega
            rw [if_pos c1,if_pos c2]
            exact⟨m,[],8,fun _=>rfl,rfl,rfl,.full hv,fun _=>⟨m3,m4⟩⟩
  · have c0:decide ((v.length:Int) > 1024)=true:=dt (by omega)
    rw [if_pos c0,if_pos c0]
    exact⟨[],[],4,fun h=>absurd h hv,rfl,rfl,.long (by omega),fun h=>absurd h hv⟩
structure OkW (w:T_Write):Prop where
  b:w.Bytes.length≤65536
  o:I64 w.Offset
theorem plan_ok {s:T_Store} {k:Int} {v:List Int} {m:List T_Item} {ws:List T_Write} {e:Int} (f:T_Flash) (hm:Mtd f s) (hf:f.Banks.1.length≤65536) (h:PlanOk s k v m ws e):(∀w∈ws,OkW w)∧ws.length≤100∧(e≠0→ws=[])∧(e=0∨e=4∨e=8):=by
  obtain⟨hfl,hbk,he0,he1,hc0,hc1,hit,hil,hsz⟩:=hm
  cases h with
  | long h=>exact⟨fun w hw=>by simp at hw,by simp,fun _=>rfl,.inr (.inl rfl)⟩
  | same h=>exact⟨fun w hw=>by simp at hw,by simp,fun _=>rfl,.inl rfl⟩
  | full h=>exact⟨fun w hw=>by simp at hw,by simp,fun _=>rfl,.inr (.inr rfl)⟩
  | app hv h=>
    rw [hfl] at h
    refine ⟨fun w hw=>?_,by simp,fun h=>absurd rfl h,.inl rfl⟩
    rw [List.mem_singleton] at hw
    subst hw
    exact⟨by simp only; omega,by simp only [I64]; omega⟩
  | new hv h hc=>
    rw [hfl] at h
    refine ⟨fun w hw=>?_,by simp,fun h=>absurd rfl h,.inl rfl⟩
    have hw':w=⟨1 - s.Bank,true,0,[]⟩∨w=⟨1 - s.Bank,false,10,recs m⟩∨w=⟨1 - s.Bank,false,0,headB (s.Count+1)⟩:=by simpa using hw
    rcases hw' with rfl | rfl | rfl
    · exact⟨by simp,by simp only [I64]; omega⟩
    · exact⟨by simp only; omega,by simp only [I64]; omega⟩
    · exact⟨by simp only [headB_len]; omega,by simp only [I64]; omega⟩
theorem kept_id (F:Nat) (f:T_Flash) (s:T_Store) (hm:Mtd f s) (h1:f.Banks.1.length≤65536) (h2:f.Banks.2.length≤65536) (hF:200000<F):flash_kept F s=some s:=by
  unfold flash_kept
  have hil:=hm.il
  rw [hm.fl,copied_id F f h1 h2 (by omega),Option.bind_some]
  have:=iter_count (body:=fun q:List T_Item×Int=>flash_kept_l1 F s q.1 q.2) (fun i=>(s.Items.take i,(i:Int))) s.Items.length s.Items (by
    intro i hi
    have hx:s.Items[i]? = some s.Items[i]:=List.getElem?_eq_getElem hi
    have hok:=(hm.it.ok _ (List.getElem_mem hi)).vl
    have htl:(s.Items.take i).length≤i:=by simp; omega
    rw [List.take_add_one,hx,Option.toList_some]
    generalize s.Items[i]=x at *
    show flash_kept_l1 F s (s.Items.take i) (i:Int)=_
    unfold flash_kept_l1
    rw [if_pos (dt (by rw [len_nat]; omega)),idx_nat,hx,Option.bind_some,join_one F _ (by omega) (by omega),Option.bind_some,app_small (by simp; omega) (by decide),Option.bind_some,w64_nat i (by omega)]) (by
    show flash_kept_l1 F s _ _=_
    unfold flash_kept_l1
    rw [if_neg (df (by rw [len_nat]; omega)),List.take_length]) F 0 (by omega) (by omega)
  rw [List.take_zero,show ((0:Nat):Int)=0 from rfl] at this
  rw [this,Option.bind_some]
  unfold flash_kept_j1
  rw [← hm.fl]
structure Shp (f g:T_Flash):Prop where
  a:g.Banks.1.length=f.Banks.1.length
  b:g.Banks.2.length=f.Banks.2.length
  c:(∀x∈f.Banks.1,Byte x)→∀x∈g.Banks.1,Byte x
  d:(∀x∈f.Banks.2,Byte x)→∀x∈g.Banks.2,Byte x
theorem shp_rfl (f:T_Flash):Shp f f:=⟨rfl,rfl,fun h=>h,fun h=>h⟩
theorem shp_trans {f g h:T_Flash} (a:Shp f g) (b:Shp g h):Shp f h:=⟨b.a.trans a.a,b.b.trans a.b,fun q=>b.c (a.c q),fun q=>b.d (a.d q)⟩
theorem done_both (F:Nat) (f:T_Flash) (ws:List T_Write) (e:Int) (hw:∀w∈ws,OkW w) (h1:f.Banks.1.length≤65536) (h2:f.Banks.2.length≤65536) (hn:ws.length≤100) (hF:200000<F) :
    ∃g,iter (fun s:T_Flash×Int=>flash_Put_l1 F (ws,e) s.1 s.2) F (f,0)=some g∧wirelessref39_Done F f ws=some g∧Shp f g:=by
  unfold wirelessref39_Done wirelessref39_Done_j1
  obtain⟨g,g2,e1,e2,rfl,e3⟩:=iter_sim (b1:=fun s:T_Flash×Int=>flash_Put_l1 F (ws,e) s.1 s.2) (b2:=fun s:T_Flash×Int=>wirelessref39_Done_l1 F ws s.1 s.2)
    (fun s t=>s=t∧Shp f s.1∧∃i:Nat,s.2=(i:Int)∧i≤ws.length) (fun o p=>o=p∧Shp f o) (fun s=>ws.length - s.2.toNat) (by
    rintro⟨g,at_⟩ _ ⟨rfl,hs,i,hi,hil⟩
    simp only at hs hi
    subst hi
    show (∃t1 t2,flash_Put_l1 F (ws,e) g (i:Int)=some (.next t1)∧wirelessref39_Done_l1 F ws g (i:Int)=some (.next t2)∧_)∨∃o1 o2,flash_Put_l1 F (ws,e) g (i:Int)=some (.done o1)∧wirelessref39_Done_l1 F ws g (i:Int)=some (.done o2)∧_
    unfold flash_Put_l1 wirelessref39_Done_l1
    by_cases hin:i<ws.length
    · have hx:ws[i]? = some ws[i]:=List.getElem?_eq_getElem hin
      have hok:=hw _ (List.getElem_mem hin)
      generalize ws[i]=w at *
      obtain⟨o,a1,a2,a3,a4,a5,a6⟩:=apply_same F g w (-1) (by rw [hs.a]; exact h1) (by rw [hs.b]; exact h2) hok.b hok.o hF
      have hc:decide ((i:Int)<len ws)=true:=dt (by rw [len_nat]; omega)
      rw [if_pos hc,if_pos hc,idx_nat,hx,Option.bind_some,Option.bind_some,a1,a2,Option.bind_some,w64_nat i (by omega)]
      exact .inl ⟨_,_,rfl,rfl,⟨rfl,shp_trans hs ⟨a3,a4,a5,a6⟩,i+1,rfl,by omega⟩,by simp only; omega⟩
    · have hc:¬ decide ((i:Int)<len ws)=true:=df (by rw [len_nat]; omega)
      rw [if_neg hc,if_neg hc]
      exact .inr ⟨_,_,rfl,rfl,rfl,hs⟩) F (f,0) (f,0) ⟨rfl,shp_rfl f,0,rfl,by omega⟩ (by simp; omega)
  exact⟨g,e1,by rw [e2]; rfl,e3⟩
structure Mt (F:Nat) (f:T_Flash) (s:T_Store):Prop where
  m:Mtd f s
  r:wirelessref39_Mount F f=some (s,0)
  b1:∀x∈f.Banks.1,Byte x
  b2:∀x∈f.Banks.2,Byte x
theorem put_mt (F:Nat) (f:T_Flash) (s:T_Store) (hM:Mt F f s) (k:Int) (k0:0≤k) (k1:k<65536) (v:List Int) (hvb:∀x∈v,Byte x) (hF:200000<F) (hFF:F≤FF) :
    ∃ws e,flash_Plan F s k v=some (ws,e)∧wirelessref39_Plan F s k v=some (ws,e)∧ws.length≤3∧(e=0→∃g t,flash_Put F s k v=some (t,0)∧wirelessref39_Put F s k v=some (t,0)∧Mt F g t):=by
  obtain⟨hm,hR,hb1,hb2⟩:=hM
  obtain⟨hc1,hc2,hc3⟩:=hm.sz
  obtain⟨m,ws,e,p1,p2,p3,p4,p5⟩:=plan_both F f s hm hc3 k k0 k1 v hvb hF hFF
  obtain⟨hw,hn,he,_⟩:=plan_ok f hm hc3 p4
  refine ⟨ws,e,p2,p3,by cases p4 <;> simp,fun h0=>?_⟩
  subst h0
  unfold flash_Put wirelessref39_Put
  rw [p2,p3,Option.bind_some,Option.bind_some]
  simp only
  rw [if_neg (show ¬ ((0:Int) != 0)=true by decide)]
  by_cases hz:ws=[]
  · subst hz
    rw [if_pos (by decide),kept_id F f s hm hc3 (by omega) hF,Option.bind_some]
    obtain⟨g,g1,g2,g3⟩:=done_both F f [] 0 hw hc3 (by omega) hn hF
    have hg:g=f:=by
      obtain⟨F',rfl⟩:∃F',F=F'+1:=⟨F - 1,by omega⟩
      rw [iter_stop (o:=f) (by show flash_Put_l1 _ _ f 0=_; unfold flash_Put_l1; rw [if_neg (by simp [len])])] at g1
      exact (Option.some.inj g1).symm
    rw [hm.fl,g2,Option.bind_some,hg,hR,Option.bind_some]
    exact⟨f,s,rfl,rfl,hm,hR,hb1,hb2⟩
  · have hl:ws.length≠0:=fun h=>hz (List.length_eq_zero_iff.1 h)
    rw [if_neg (by simp [len]; exact hz),hm.fl]
    obtain⟨g,g1,g2,g3⟩:=done_both F f ws 0 hw hc3 (by omega) hn hF
    obtain⟨t,e',m1,m2,m3,m4⟩:=mount_both F g (g3.c hb1) (g3.d hb2) hF hFF
    rw [g1,g2,Option.bind_some,Option.bind_some,m2,Option.bind_some]
    unfold flash_Put_j1
    rw [m1,Option.bind_some]
    rcases m4 with ⟨rfl,m4⟩ | ⟨_,_,m4⟩
    · exact⟨g,t,rfl,rfl,m4,m2,g3.c hb1,g3.d hb2⟩
    · exact absurd ⟨by rw [g3.a,g3.b]; exact hc1,by rw [g3.a]; exact hc2,by rw [g3.a]; exact hc3⟩ m4
theorem sameW_refl (F:Nat) (a:List T_Write) (hl:a.length≤100) (hF:200000<F):wirelessref39_SameWrites F a a=some true:=by
  unfold wirelessref39_SameWrites
  rw [if_neg (by simp)]
  have:=iter_count (body:=fun s:Int=>wirelessref39_SameWrites_l1 F a a s) (fun i=>(i:Int)) a.length (.inl ()) (by
    intro i hi
    have hx:a[i]? = some a[i]:=List.getElem?_eq_getElem hi
    show wirelessref39_SameWrites_l1 F a a (i:Int)=_
    unfold wirelessref39_SameWrites_l1 wirelessref39_SameWrites_j2
    rw [if_pos (dt (by rw [len_nat]; omega)),idx_nat,hx,Option.bind_some,Option.bind_some,if_neg (by simp),if_neg (by simp),if_neg (by simp),if_neg (by simp),w64_nat i (by omega)]) (by
    show wirelessref39_SameWrites_l1 F a a _=_
    unfold wirelessref39_SameWrites_l1
    rw [if_neg (df (by rw [len_nat]; omega))]) F 0 (by omega) (by omega)
  rw [show ((0:Nat):Int)=0 from rfl] at this
  rw [this]
  rfl
theorem flat_byte:∀(l:List T_Subscription),∀x∈l.flatMap subB,Byte x
  | [],x,h=>by cases h
  | s::l,x,h=>by
    rw [List.flatMap_cons] at h
    rcases List.mem_append.1 h with h | h
    · rcases List.mem_append.1 h with h | h
      · exact leb_byte _ _ x h
      · exact leb_byte _ _ x h
    · exact flat_byte l x h
theorem encB_byte (b:T_Bond):∀x∈encB b,Byte x:=
  byte_app (byte_app (leb_byte _ _) (leb_byte _ _)) (byte_app (byte_app (byte_app (byte_app (byte_app (byte_app (byte_app (leb_byte _ _) (leb_byte _ _)) (leb_byte _ _)) (leb_byte _ _)) (leb_byte _ _)) (leb_byte _ _)) (leb_byte _ _)) (flat_byte _))
theorem encB_len (b:T_Bond):(encB b).length=45+3 * b.Subs.length:=by
  unfold encB
  simp only [List.length_append,leb_length,subB_len]
  omega
theorem enc_cases (F:Nat) (b:T_Bond) (hF:2000<F) (hr:RB b):(VB b∧bonds_Encode F b=some (encB b,0)∧wirelessref40_Encode F b=some (encB b,0))∨∃e,e≠0∧bonds_Encode F b=some ([],e)∧wirelessref40_Encode F b=some ([],e):=by
  obtain⟨e,k1,k2⟩:=check_ok F b hF hr.bits
  by_cases h:e=0
  · subst h
    have hv:=k2.1 rfl
    exact .inl ⟨hv,enc_u F b hF hv hr,enc_r F b hF hv hr⟩
  · refine .inr ⟨e,h,?_,?_⟩
    · unfold bonds_Encode
      rw [check_same F b hr.bits,k1,Option.bind_some,if_pos (by simpa using h)]
    · unfold wirelessref40_Encode
      rw [k1,Option.bind_some,if_pos (by simpa using h)]
theorem mget_mput {α:Type} (j k:Int) (x:α):∀m:List (Int×α),mget (mput m k x) j=if j=k then some x else mget m j
  | []=>by
    unfold mput mget
    by_cases h:j=k
    · rw [if_pos (by simpa using h),if_pos h]
    · rw [if_neg (by simpa using h),if_neg h]
      rfl
  | (i,y)::m=>by
    have ih:=mget_mput j k x m
    unfold mput
    by_cases hk:(k == i)=true
    · rw [if_pos hk]
      have hki:k=i:=by simpa using hk
      subst hki
      unfold mget
      by_cases h:j=k
      · rw [if_pos (by simpa using h),if_pos h]
      · rw [if_neg (by simpa using h),if_neg h,if_neg (by simpa using h)]
    · rw [if_neg hk]
      unfold mget
      by_cases hj:(j == i)=true
      · have hji:j=i:=by simpa using hj
        subst hji
        rw [if_pos (by simp),if_neg (fun e=>hk (by simp [e])),if_pos (by simp)]
      · rw [if_neg hj,if_neg hj,ih]
theorem mval_mput {α:Type} (z:α) (m:List (Int×α)) (j k:Int) (x:α):mval z (mput m k x) j=if j=k then x else mval z m j:=by
  unfold mval
  rw [mget_mput]
  split <;> rfl
theorem upd_gen {α:Type} {l:List α} {i:Nat} {x:α} (h:i<l.length):upd l (i:Int) x=some (l.set i x):=by
  unfold upd
  rw [if_pos (by omega)]
  rfl
structure Vals (m:List (Int×List Int)) (a:List (List Int)):Prop where
  l:a.length=16
  e:∀k:Nat,k<16→a[k]? = some (mval [] m k)
  b:∀k:Nat,k<16→(∀x∈mval [] m k,Byte x)
theorem vals_nil:Vals [] (List.replicate 16 []):=⟨by simp,fun k hk=>by
  rw [List.getElem?_replicate,if_pos hk]
  rfl,fun k hk x hx=>by cases hx⟩
theorem Vals.put {m:List (Int×List Int)} {a:List (List Int)} (h:Vals m a) {i:Nat} (hi:i<16) {v:List Int} (hv:∀x∈v,Byte x):Vals (mput m i v) (a.set i v):=by
  have hl:=h.l
  refine ⟨by simp [hl],fun k hk=>?_,fun k hk=>?_⟩
  · rw [mval_mput]
    by_cases hki:k=i
    · subst hki
      rw [if_pos rfl,List.getElem?_set_self (by omega)]
    · rw [if_neg (by omega),List.getElem?_set_ne (fun e=>hki e.symm),h.e k hk]
  · rw [mval_mput]
    split
    · exact hv
    · exact h.b k hk
theorem recs_both (F:Nat) (l:List T_Bond) (hl:l.length≤16) (hr:∀b∈l,RB b) (hF:200000<F) :
    ∃o p,iter (fun s:List (Int×List Int)×Int=>bonds_records_l1 F l s.1 s.2) F ([],0)=some o∧iter (fun s:List (List Int)×Int=>wirelessref40_Plan_l2 F l s.1 s.2) F (List.replicate 16 [],0)=some p∧
      ((∃m a,o = .inl m∧p = .inl a∧Vals m a)∨∃e,e≠0∧o = .inr ([],e)∧p = .inr ([],e)):=by
  refine iter_sim (b1:=fun s:List (Int×List Int)×Int=>bonds_records_l1 F l s.1 s.2) (b2:=fun s:List (List Int)×Int=>wirelessref40_Plan_l2 F l s.1 s.2)
    (fun s t=>Vals s.1 t.1∧∃i:Nat,s.2=(i:Int)∧t.2=(i:Int)∧i≤l.length) _ (fun s=>l.length - s.2.toNat) (fun s t h=>?_) F ([],0) (List.replicate 16 [],0) ⟨vals_nil,0,rfl,rfl,by omega⟩ (by simp only; omega)
  obtain⟨m,_⟩:=s
  obtain⟨a,_⟩:=t
  obtain⟨hv,i,rfl,rfl,hi⟩:=h
  simp only at hv
  show (∃t1 t2,bonds_records_l1 F l m (i:Int)=some (.next t1)∧wirelessref40_Plan_l2 F l a (i:Int)=some (.next t2)∧_)∨∃o1 o2,bonds_records_l1 F l m (i:Int)=some (.done o1)∧wirelessref40_Plan_l2 F l a (i:Int)=some (.done o2)∧_
  unfold bonds_records_l1 wirelessref40_Plan_l2
  by_cases hin:i<l.length
  · have hx:l[i]? = some l[i]:=List.getElem?_eq_getElem hin
    have hb:=hr _ (List.getElem_mem hin)
    generalize l[i]=b at *
    have hc:decide ((i:Int)<len l)=true:=dt (by rw [len_nat]; omega)
    rw [if_pos hc,if_pos hc,idx_nat,hx,Option.bind_some,Option.bind_some]
    rcases enc_cases F b (by omega) hb with ⟨hvb,e1,e2⟩ | ⟨e,h0,e1,e2⟩
    · have hal:=hv.l
      have h16:i<16:=by omega
      have hin2:idxn 16 a (i:Int)=some a[i]:=by
        unfold idxn
        rw [if_pos (by omega),idx_nat,List.getElem?_eq_getElem (by omega)]
      rw [e1,e2,Option.bind_some,Option.bind_some,if_neg (show ¬ ((0:Int) != 0)=true by decide),if_neg (show ¬ ((0:Int) != 0)=true by decide),hin2,Option.bind_some,upd_gen (by omega),Option.bind_some,w64_nat i (by omega),wu16_id (by omega) (by omega)]
      refine .inl ⟨_,_,rfl,rfl,⟨hv.put h16 (encB_byte b),i+1,rfl,rfl,by omega⟩,by simp only; omega⟩
    · rw [e1,e2,Option.bind_some,Option.bind_some,if_pos (by simp [h0]),if_pos (by simp [h0])]
      exact .inr ⟨_,_,rfl,rfl,.inr ⟨e,h0,rfl,rfl⟩⟩
  · have hc:¬ decide ((i:Int)<len l)=true:=df (by rw [len_nat]; omega)
    rw [if_neg hc,if_neg hc]
    exact .inr ⟨_,_,rfl,rfl,.inl ⟨m,a,rfl,rfl,hv⟩⟩
theorem keys_both (F:Nat) (m:List (Int×List Int)) (a:List (List Int)) (q:Int) (hv:Vals m a) (f:T_Flash) (s:T_Store) (hM:Mt F f s) (hF:200000<F) (hFF:F≤FF) :
    ∃o p,iter (fun z:T_Store×List T_Write×Int=>bonds_Plan_l1 F (m,q) z.1 z.2.1 z.2.2) F (s,[],0)=some o∧iter (fun z:T_Store×List T_Write×Int=>wirelessref40_Plan_l1 F a z.1 z.2.1 z.2.2) F (s,[],0)=some p∧
      ((∃ws,o = .inl ws∧p = .inl ws∧ws.length≤48)∨∃e,o = .inr ([],e)∧p = .inr ([],e)):=by
  refine iter_sim (b1:=fun z:T_Store×List T_Write×Int=>bonds_Plan_l1 F (m,q) z.1 z.2.1 z.2.2) (b2:=fun z:T_Store×List T_Write×Int=>wirelessref40_Plan_l1 F a z.1 z.2.1 z.2.2)
    (fun z t=>z=t∧(∃f,Mt F f z.1)∧∃i:Nat,z.2.2=(i:Int)∧i≤16∧z.2.1.length≤3 * i) _ (fun z=>16 - z.2.2.toNat) (fun z t h=>?_) F (s,[],0) (s,[],0) ⟨rfl,⟨f,hM⟩,0,rfl,by omega,by simp⟩ (by simp; omega)
  obtain⟨rfl,⟨f,hM⟩,i,hi,hi16,hlen⟩:=h
  obtain⟨s,ws,j⟩:=z
  simp only at hi hM hlen
  subst hi
  show (∃t1 t2,bonds_Plan_l1 F (m,q) s ws (i:Int)=some (.next t1)∧wirelessref40_Plan_l1 F a s ws (i:Int)=some (.next t2)∧_)∨∃o1 o2,bonds_Plan_l1 F (m,q) s ws (i:Int)=some (.done o1)∧wirelessref40_Plan_l1 F a s ws (i:Int)=some (.done o2)∧_
  unfold bonds_Plan_l1 wirelessref40_Plan_l1
  by_cases hin:i<16
  · have hc:decide ((i:Int)<16)=true:=dt (by omega)
    have hx:=hv.e i hin
    have hin2:idxn 16 a (i:Int)=some (mval [] m i):=by
      unfold idxn
      rw [if_pos (by omega),idx_nat,hx]
    have hix:idx a (i:Int)=some (mval [] m i):=by rw [idx_nat,hx]
    obtain⟨ws',e,p1,p2,p3,p4⟩:=put_mt F f s hM i (by omega) (by omega) (mval [] m i) (hv.b i hin) hF hFF
    rw [if_pos hc,if_pos hc,hin2,Option.bind_some,hix,Option.bind_some,wu16_id (x:=(i:Int)) (by omega) (by omega),p1,p2,Option.bind_some,Option.bind_some]
    unfold wirelessref40_Plan_j3
    simp only
    by_cases h0:e=0
    · subst h0
      obtain⟨g,t,t1,t2,t3⟩:=p4 rfl
      rw [if_neg (show ¬ ((0:Int) != 0)=true by decide),if_neg (show ¬ ((0:Int) != 0)=true by decide),t1,Option.bind_some]
      simp only
      rw [if_neg (show ¬ ((0:Int) != 0)=true by decide),app_small (by omega) (by decide),Option.bind_some,Option.bind_some,hin2,Option.bind_some,hix,Option.bind_some,wu16_id (x:=(i:Int)) (by omega) (by omega),t2,Option.bind_some,w64_nat i (by omega),wu16_id (x:=(i:Int)+1) (by omega) (by omega)]
      exact .inl ⟨(t,ws++ws',((i+1:Nat):Int)),(t,ws++ws',((i+1:Nat):Int)),rfl,rfl,⟨rfl,⟨g,t3⟩,i+1,rfl,by omega,by simp only [List.length_append]; omega⟩,by simp only; omega⟩
    · rw [if_pos (by simp [h0]),if_pos (by simp [h0])]
      exact .inr ⟨_,_,rfl,rfl,.inr ⟨e,rfl,rfl⟩⟩
  · have hc:¬ decide ((i:Int)<16)=true:=df (by omega)
    rw [if_neg hc,if_neg hc]
    exact .inr ⟨_,_,rfl,rfl,.inl ⟨ws,rfl,rfl,by omega⟩⟩
theorem bplan_both (F:Nat) (l:List T_Bond) (hr:∀b∈l,RB b) (f:T_Flash) (s:T_Store) (hM:Mt F f s) (hF:200000<F) (hFF:F≤FF):∃ws e,bonds_Plan F s l=some (ws,e)∧wirelessref40_Plan F s l=some (ws,e)∧ws.length≤48:=by
  unfold bonds_Plan wirelessref40_Plan bonds_records
  rw [len_nat]
  by_cases hl:l.length≤16
  · rw [if_neg (df (by omega)),if_neg (df (by omega))]
    obtain⟨o,p,h1,h2,h3⟩:=recs_both F l hl hr hF
    rw [h1,h2,Option.bind_some,Option.bind_some]
    rcases h3 with ⟨m,a,rfl,rfl,hv⟩ | ⟨e,h0,rfl,rfl⟩
    · unfold bonds_records_j1 wirelessref40_Plan_j1
      simp only [Option.bind_some]
      rw [if_neg (show ¬ ((0:Int) != 0)=true by decide)]
      obtain⟨o,p,k1,k2,k3⟩:=keys_both F m a 0 hv f s hM hF hFF
      rw [k1,k2,Option.bind_some,Option.bind_some]
      rcases k3 with ⟨ws,rfl,rfl,k3⟩ | ⟨e,rfl,rfl⟩
      · exact⟨ws,0,rfl,rfl,k3⟩
      · exact⟨[],e,rfl,rfl,by simp⟩
    · simp only [Option.bind_some]
      rw [if_pos (by simp [h0])]
      exact⟨[],e,rfl,rfl,by simp⟩
  · rw [if_pos (dt (by omega)),if_pos (dt (by omega))]
    exact⟨[],4,rfl,rfl,by simp⟩
def sameA (b c:T_Bond):Bool:=(c.Peer.Address.Kind == b.Peer.Address.Kind)&&(c.Peer.Address.Bits == b.Peer.Address.Bits)
theorem index_any (F:Nat) (l:List T_Bond) (b:T_Bond) (hl:l.length≤1000) (hF:200000<F):∃z,bonds_index_api_Bond_at68 F l b=some z∧(z<0↔(l.any (sameA b))=false):=by
  have key:∀(f i:Nat),i≤l.length→l.length - i<f→∃o,iter (fun s:Int=>bonds_index_api_Bond_at68_l1 F l b s) f (i:Int)=some o∧((o = .inl ()∧(l.drop i).any (sameA b)=false)∨∃j:Nat,o = .inr (j:Int)∧(l.drop i).any (sameA b)=true):=by
    intro f
    induction f with
    | zero=>intro i _ h; omega
    | succ f ih=>
      intro i hi hf
      by_cases hin:i<l.length
      · have hx:l[i]? = some l[i]:=List.getElem?_eq_getElem hin
        have hdr:l.drop i=l[i]::l.drop (i+1):=List.drop_eq_getElem_cons hin
        have hbody:bonds_index_api_Bond_at68_l1 F l b (i:Int)=some (if sameA b l[i]=true then .done (.inr (i:Int)) else .next ((i+1:Nat):Int)):=by
          unfold bonds_index_api_Bond_at68_l1 bonds_Load_1
          rw [if_pos (dt (by rw [len_nat]; omega)),idx_nat,hx,Option.bind_some,Option.bind_some,w64_nat i (by omega)]
          unfold sameA
          split <;> rfl
        rw [hdr,List.any_cons]
        by_cases hs:sameA b l[i]=true
        · rw [if_pos hs] at hbody
          exact⟨_,iter_stop hbody,.inr ⟨i,rfl,by rw [hs]; rfl⟩⟩
        · rw [if_neg hs] at hbody
          rw [(Bool.not_eq_true _).mp hs,Bool.false_or]
          obtain⟨o,h1,h2⟩:=ih (i+1) hin (by omega)
          exact⟨o,by rw [iter_step hbody]; exact h1,h2⟩
      · have:i=l.length:=by omega
        subst this
        refine ⟨.inl (),iter_stop (by show bonds_index_api_Bond_at68_l1 F l b _=_; unfold bonds_index_api_Bond_at68_l1; rw [if_neg (df (by rw [len_nat]; omega))]),.inl ⟨rfl,by rw [List.drop_length]; rfl⟩⟩
  unfold bonds_index_api_Bond_at68
  obtain⟨o,h1,h2⟩:=key F 0 (by omega) (by omega)
  rw [show ((0:Nat):Int)=0 from rfl] at h1
  rw [List.drop_zero] at h2
  rw [h1,Option.bind_some]
  rcases h2 with ⟨rfl,h2⟩ | ⟨j,rfl,h2⟩
  · exact⟨-1,rfl,by simp [h2]⟩
  · exact⟨j,rfl,by simp [h2]⟩
theorem known_any (F:Nat) (l:List T_Bond) (x:T_Bond×Int) (hl:l.length≤1000) (hF:200000<F):iter (fun s:Bool×Int=>wirelessref40_Load_l2 F l x s.1 s.2) F (false,0)=some (l.any (sameA x.1)):=by
  have:=iter_count (body:=fun s:Bool×Int=>wirelessref40_Load_l2 F l x s.1 s.2) (fun i=>((l.take i).any (sameA x.1),(i:Int))) l.length (l.any (sameA x.1)) (by
    intro i hi
    have hx:l[i]? = some l[i]:=List.getElem?_eq_getElem hi
    show wirelessref40_Load_l2 F l x ((l.take i).any (sameA x.1)) (i:Int)=_
    unfold wirelessref40_Load_l2 wirelessref40_Load_j4
    rw [List.take_add_one,hx,Option.toList_some,List.any_append,if_pos (dt (by rw [len_nat]; omega)),idx_nat,hx,Option.bind_some,w64_nat i (by omega)]
    cases (l.take i).any (sameA x.1)
    · rw [if_neg (by decide)]
      simp [sameA]
    · rw [if_pos rfl]
      rfl) (by
    show wirelessref40_Load_l2 F l x _ _=_
    unfold wirelessref40_Load_l2
    rw [if_neg (df (by rw [len_nat]; omega)),List.take_length]) F 0 (by omega) (by omega)
  exact this
theorem load_both (F:Nat) (f:T_Flash) (s:T_Store) (hM:Mt F f s) (hF:200000<F):∃l,bonds_Load F s=some l∧wirelessref40_Load F s=some l∧l.length≤16∧∀b∈l,b.Subs.length≤255:=by
  have hil:=hM.m.il
  have hit:=hM.m.it
  obtain⟨o,p,h1,h2,rfl,h3⟩:=iter_sim (b1:=fun z:List T_Bond×Int=>bonds_Load_l1 F s z.1 z.2) (b2:=fun z:List T_Bond×Int=>wirelessref40_Load_l1 F s z.1 z.2)
    (fun z t=>z=t∧∃i:Nat,z.2=(i:Int)∧i≤16∧z.1.length≤i∧∀b∈z.1,b.Subs.length≤255) (fun o p=>o=p∧o.length≤16∧∀b∈o,b.Subs.length≤255) (fun z=>16 - z.2.toNat) (by
    rintro⟨l,_⟩ _ ⟨rfl,i,rfl,hi16,hlen,hsub⟩
    simp only at hlen hsub
    show (∃t1 t2,bonds_Load_l1 F s l (i:Int)=some (.next t1)∧wirelessref40_Load_l1 F s l (i:Int)=some (.next t2)∧_)∨∃o1 o2,bonds_Load_l1 F s l (i:Int)=some (.done o1)∧wirelessref40_Load_l1 F s l (i:Int)=some (.done o2)∧_
    unfold bonds_Load_l1 wirelessref40_Load_l1
    by_cases hin:i<16
    · have hc:decide ((i:Int)<16)=true:=dt (by omega)
      have hw1:wu16 (i:Int)=(i:Int):=wu16_id (by omega) (by omega)
      have hw2:wu16 ((i:Int)+1)=((i+1:Nat):Int):=by rw [wu16_id (by omega) (by omega)]; omega
      have skip:∀l':List T_Bond,bonds_Load_j2 F (i:Int) l'=some (.next (l',((i+1:Nat):Int)))∧wirelessref40_Load_j2 F (i:Int) l'=some (.next (l',((i+1:Nat):Int))):=fun l'=>by
        unfold bonds_Load_j2 wirelessref40_Load_j2
        rw [hw2,w64_nat i (by omega)]
        exact⟨rfl,rfl⟩
      rw [if_pos hc,if_pos hc,hw1,get_eq F s i hit (by omega) hF,rget_eq F s i (fun x hx=>by have:=(hit.ok x hx).vl; omega) (by omega) hF,Option.bind_some,Option.bind_some]
      have nx:∀l':List T_Bond,l'.length≤i+1→(∀b∈l',b.Subs.length≤255)→(((l',((i+1:Nat):Int))=(l',((i+1:Nat):Int))∧∃q:Nat,((i+1:Nat):Int)=(q:Int)∧q≤16∧l'.length≤q∧∀b∈l',b.Subs.length≤255)∧16 - ((i+1:Nat):Int).toNat<16 - (i:Int).toNat):=fun l' h1 h2=>⟨⟨rfl,i+1,rfl,by omega,h1,h2⟩,by omega⟩
      cases hg:s.Items.find? fun x=>x.Key == (i:Int) with
      | none=>
        unfold got
        simp only
        rw [if_pos (by decide),if_pos (by decide),(skip l).1,(skip l).2]
        exact .inl ⟨_,_,rfl,rfl,nx l (by omega) hsub⟩
      | some it=>
        have hok:=hit.ok it (List.mem_of_find?_eq_some hg)
        have hvl:=hok.vl
        obtain⟨r,d1,d2,d3⟩:=dec_both F it.Value (by omega) hok.vb (by omega)
        unfold got
        simp only
        rw [if_neg (by decide),if_neg (by decide),d1,d2,Option.bind_some,Option.bind_some,known_any F l r (by omega) hF,Option.bind_some]
        unfold wirelessref40_Load_j3
        obtain⟨z,z1,z2⟩:=index_any F l r.1 (by omega) hF
        by_cases h0:r.2=0
        · rw [if_neg (by simp [h0]),z1,Option.bind_some]
          cases hk:l.any (sameA r.1)
          · have hz:=z2.2 hk
            rw [if_pos (dt hz),if_pos (by simp [h0]),app_small (by simp; omega) (by decide),Option.bind_some,Option.bind_some,(skip _).1,(skip _).2]
            refine .inl ⟨_,_,rfl,rfl,nx _ (by simp; omega) fun b hb=>?_⟩
            rcases List.mem_append.1 hb with hb | hb
            · exact hsub b hb
            · rw [List.mem_singleton] at hb
              subst hb
              exact d3
          · have hz:¬ z<0:=fun h=>by rw [z2.1 h] at hk; cases hk
            rw [if_neg (df hz),if_neg (by simp),(skip _).1,(skip _).2]
            exact .inl ⟨_,_,rfl,rfl,nx l (by omega) hsub⟩
        · rw [if_pos (by simp [h0]),if_neg (by simp [h0]),(skip _).1,(skip _).2]
          exact .inl ⟨_,_,rfl,rfl,nx l (by omega) hsub⟩
    · have hc:¬ decide ((i:Int)<16)=true:=df (by omega)
      rw [if_neg hc,if_neg hc]
      exact .inr ⟨_,_,rfl,rfl,rfl,by omega,hsub⟩) F ([],0) ([],0) ⟨rfl,0,rfl,by omega,by simp,fun b h=>by cases h⟩ (by simp; omega)
  refine ⟨o,?_,?_,h3⟩
  · unfold bonds_Load
    rw [h1]
    rfl
  · unfold wirelessref40_Load
    rw [h2]
    rfl
theorem sameB_refl (F:Nat) (l:List T_Bond) (hl:l.length≤1000) (hs:∀b∈l,b.Subs.length≤1000) (hF:200000<F):wirelessref40_Same F l l=some true:=by
  unfold wirelessref40_Same
  rw [if_neg (by simp)]
  have:=iter_count (body:=fun s:Int=>wirelessref40_Same_l1 F l l s) (fun i=>(i:Int)) l.length (.inl ()) (by
    intro i hi
    have hx:l[i]? = some l[i]:=List.getElem?_eq_getElem hi
    have hsb:=hs _ (List.getElem_mem hi)
    show wirelessref40_Same_l1 F l l (i:Int)=_
    unfold wirelessref40_Same_l1 wirelessref40_Same_j2
    rw [if_pos (dt (by rw [len_nat]; omega)),idx_nat,hx,Option.bind_some,Option.bind_some,same_bond F _ (by omega) hsb,Option.bind_some,if_neg (by decide),w64_nat i (by omega)]) (by
    show wirelessref40_Same_l1 F l l _=_
    unfold wirelessref40_Same_l1
    rw [if_neg (df (by rw [len_nat]; omega))]) F 0 (by omega) (by omega)
  rw [show ((0:Nat):Int)=0 from rfl] at this
  rw [this]
  rfl
theorem sl_take {b b':List Int} {e:Nat} (h:b.take e=b'.take e) {i j:Nat} (hj:j≤e):sl b i j=sl b' i j:=by
  unfold sl
  have h2:=congrArg (List.take j) h
  rw [List.take_take,List.take_take,Nat.min_eq_left hj] at h2
  rw [h2]
theorem sl_sl (b:List Int) (i j x y:Nat) (h:i+y≤j):sl (sl b i j) x y=sl b (i+x) (i+y):=by
  unfold sl
  rw [List.take_drop,List.take_take,Nat.min_eq_left h,List.drop_drop]
theorem sl_mid (A B C:List Int):sl (A++(B++C)) A.length (A.length+B.length)=B:=by
  unfold sl
  rw [← List.append_assoc,← List.length_append,List.take_left,List.drop_left]
theorem sl_get (b:List Int) (i j x:Nat) (h:i+x<j):(sl b i j)[x]? = b[i+x]?:=by
  unfold sl
  rw [List.getElem?_drop,List.getElem?_take,if_pos h]
structure RecAt (b:List Int) (e:Nat) (k:Int) (v:List Int):Prop where
  vl:v.length≤1024
  fit:e+8+v.length≤b.length
  eq:sl b e (e+8+v.length)=recB k v
  vb:∀x∈v,Byte x
  k0:0≤k
  k1:k<65536
theorem rec_form (k:Int) (v:List Int):recB k v=leb 2 v.length++(leb 2 k++(v++(leb 3 (crcs 0 (leb 2 v.length++leb 2 k++v):Nat)++[0]))):=by
  unfold recB sealB
  simp only [List.append_assoc]
theorem rec_sl0 (k:Int) (v:List Int):sl (recB k v) 0 2=leb 2 v.length:=by
  rw [rec_form]
  have:=sl_mid [] (leb 2 v.length) (leb 2 k++(v++(leb 3 (crcs 0 (leb 2 v.length++leb 2 k++v):Nat)++[0])))
  rw [leb_length] at this
  exact this
theorem rec_sl2 (k:Int) (v:List Int):sl (recB k v) 2 4=leb 2 k:=by
  rw [rec_form]
  have:=sl_mid (leb 2 v.length) (leb 2 k) (v++(leb 3 (crcs 0 (leb 2 v.length++leb 2 k++v):Nat)++[0]))
  rw [leb_length,leb_length] at this
  exact this
theorem rec_sl4 (k:Int) (v:List Int):sl (recB k v) 4 (4+v.length)=v:=by
  rw [rec_form]
  have:=sl_mid (leb 2 v.length++leb 2 k) v (leb 3 (crcs 0 (leb 2 v.length++leb 2 k++v):Nat)++[0])
  rw [List.length_append,leb_length,leb_length,List.append_assoc] at this
  exact this
theorem rec_at0 (k:Int) (v:List Int):(recB k v)[0]? = some ((v.length:Int) % 256):=by rw [rec_form]; rfl
theorem rec_at1 (k:Int) (v:List Int):(recB k v)[1]? = some ((v.length:Int) / 256 % 256):=by rw [rec_form]; rfl
theorem seal_last (b:List Int):(sealB b)[b.length+3]? = some 0:=by
  unfold sealB
  rw [List.getElem?_append_right (by simp [leb_length])]
  simp [leb_length]
theorem rec_last (k:Int) (v:List Int):(recB k v)[v.length+7]? = some 0:=by
  have:=seal_last (leb 2 v.length++leb 2 k++v)
  rw [List.length_append,List.length_append,leb_length,leb_length,show 2+2+v.length+3=v.length+7 from by omega] at this
  exact this
section
variable {F:Nat} {b:List Int} {e:Nat} {k:Int} {v:List Int}
theorem RecAt.get (h:RecAt b e k v) {i:Nat} (hi:i<v.length+8):b[e+i]? = (recB k v)[i]?:=by
  rw [← h.eq,sl_get _ _ _ _ (by omega)]
theorem RecAt.s0 (h:RecAt b e k v):sl b e (e+2)=leb 2 v.length:=by
  have:=sl_sl b e (e+8+v.length) 0 2 (by omega)
  rw [h.eq,rec_sl0] at this
  exact this.symm
theorem RecAt.s2 (h:RecAt b e k v):sl b (e+2) (e+4)=leb 2 k:=by
  rw [← rec_sl2 k v,← h.eq,sl_sl _ _ _ _ _ (by omega)]
theorem RecAt.s4 (h:RecAt b e k v):sl b (e+4) (e+4+v.length)=v:=by
  have:=sl_sl b e (e+8+v.length) 4 (4+v.length) (by omega)
  rw [h.eq,rec_sl4,← Nat.add_assoc] at this
  exact this.symm
theorem num_leb2 {n:Int} (h0:0≤n) (h1:n<65536):num (leb 2 n)=n:=by
  rw [num_leb,show (256:Int) ^ 2=65536 from rfl,Int.emod_eq_of_lt h0 h1]
theorem readP_rec (h:RecAt b e k v) (hb:∀x∈b,Byte x) (hl:b.length≤65536) (hF:200000<F) (hFF:F≤FF):flash_readP F b e=some (some (⟨k,v⟩,((e+8+v.length:Nat):Int))):=by
  obtain⟨K,hK⟩:=Int.eq_ofNat_of_zero_le h.k0
  have hk1:=h.k1
  have hvl:=h.vl
  have hfit:=h.fit
  subst hK
  have v1:flash_value F (sl b e (e+2))=some (v.length:Int):=by
    rw [value_eq F _ (sl_byte hb _ _) (by rw [h.s0,leb_length]; omega) (by omega),h.s0,num_leb2 (by omega) (by omega)]
  have v2:flash_value F (sl b (e+2) (e+4))=some (K:Int):=by
    rw [value_eq F _ (sl_byte hb _ _) (by rw [h.s2,leb_length]; omega) (by omega),h.s2,num_leb2 (by omega) (by omega)]
  rw [readP_core F b e v.length K v (recB K v) hl (by omega) hF hFF v1 (by omega) v2 (by omega) h.s4 h.eq h.vb (fun _ _=>rfl),if_pos ⟨hvl,hfit,rfl⟩]
theorem readP_none (h:∀k v,¬ RecAt b e k v) (he:e≤b.length) (hb:∀x∈b,Byte x) (hl:b.length≤65536) (hF:200000<F) (hFF:F≤FF):flash_readP F b e=some none:=by
  by_cases h8:e+8≤b.length
  · obtain⟨n,hn,hn1⟩:∃n:Nat,num (sl b e (e+2))=(n:Int)∧n<65536:=by
      obtain⟨h0,h1⟩:=num2 hb (i:=e) (by omega)
      generalize num (sl b e (e+2))=z at *
      exact⟨z.toNat,by omega,by omega⟩
    obtain⟨K,hk,hk1⟩:∃n:Nat,num (sl b (e+2) (e+4))=(n:Int)∧n<65536:=by
      obtain⟨h0,h1⟩:=num2 hb (i:=e+2) (by omega)
      rw [show e+2+2=e+4 from rfl] at h0 h1
      generalize num (sl b (e+2) (e+4))=z at *
      exact⟨z.toNat,by omega,by omega⟩
    have l2:(sl b e (e+2)).length=2:=by rw [sl_len (by omega) (by omega)]; omega
    have l3:(sl b (e+2) (e+4)).length=2:=by rw [sl_len (by omega) (by omega)]; omega
    have v1:flash_value F (sl b e (e+2))=some (n:Int):=by rw [value_eq F _ (sl_byte hb _ _) (by omega) (by omega),hn]
    have v2:flash_value F (sl b (e+2) (e+4))=some (K:Int):=by rw [value_eq F _ (sl_byte hb _ _) (by omega) (by omega),hk]
    have hvl:n≤1024→e+8+n≤b.length→(sl b (e+4) (e+4+n)).length=n:=fun _ _=>by rw [sl_len (by omega) (by omega)]; omega
    rw [readP_core F b e n K _ _ hl h8 hF hFF v1 hn1 v2 hk1 rfl rfl (sl_byte hb _ _) hvl,if_neg]
    rintro⟨c1,c2,c3⟩
    have hl4:=hvl c1 c2
    refine h K (sl b (e+4) (e+4+n)) ⟨by omega,by omega,?_,sl_byte hb _ _,by omega,by omega⟩
    rw [hl4,c3]
  · exact readP_end F b e hl he h8
inductive Reads (F:Nat) (b:List Int):List T_Item→Nat→List T_Item→Nat→Prop where
  | refl (l:List T_Item) (e:Nat):Reads F b l e l e
  | step {l m l2:List T_Item} {e e2:Nat} {k:Int} {v:List Int} (h:RecAt b e k v) (hs:flash_set F l ⟨k,v⟩=some m) (t:Reads F b m (e+8+v.length) l2 e2):Reads F b l e l2 e2
theorem Reads.mono {l l2:List T_Item} {e2:Nat} (h:Reads F b l e l2 e2):e≤e2:=by
  induction h with
  | refl=>omega
  | step _ _ _ ih=>omega
theorem Reads.trans {l m l2:List T_Item} {e1 e2:Nat} (h:Reads F b l e m e1) (h2:Reads F b m e1 l2 e2):Reads F b l e l2 e2:=by
  induction h with
  | refl=>exact h2
  | step a s _ ih=>exact .step a s (ih h2)
theorem Reads.pre {b':List Int} {l l2:List T_Item} {e2:Nat} (h:Reads F b l e l2 e2) (hq:b.take e2=b'.take e2) (hl:e2≤b'.length):Reads F b' l e l2 e2:=by
  induction h with
  | refl=>exact .refl ..
  | step a s t ih=>
    have:=t.mono
    exact .step ⟨a.vl,by omega,by rw [← sl_take hq (by omega)]; exact a.eq,a.vb,a.k0,a.k1⟩ s (ih hq hl)
theorem Reads.run {l l2:List T_Item} {e2:Nat} (h:Reads F b l e l2 e2) (hn:flash_readP F b e2=some none) (hb:∀x∈b,Byte x) (hl:b.length≤65536) (hF:200000<F) (hFF:F≤FF) :
    ∀f:Nat,e2 - e<f→iter (fun s:List T_Item×Int=>flash_contents_l1 F b s.1 s.2) f (l,(e:Int))=some (l2,(e2:Int)):=by
  induction h with
  | refl l e=>
    intro f hf
    obtain⟨f,rfl⟩:∃f',f=f'+1:=⟨f - 1,by omega⟩
    refine iter_stop ?_
    show flash_contents_l1 F b l (e:Int)=_
    unfold flash_contents_l1
    rw [hn,Option.bind_some]
  | step a s t ih=>
    intro f hf
    obtain⟨f,rfl⟩:∃f',f=f'+1:=⟨f - 1,by omega⟩
    have:=t.mono
    rw [iter_step,ih hn f (by omega)]
    show flash_contents_l1 F b _ _=_
    unfold flash_contents_l1
    rw [readP_rec a hb hl hF hFF,Option.bind_some]
    simp only [s,Option.bind_some]
theorem reads_ex (hb:∀x∈b,Byte x) (hl:b.length≤65536) (hF:200000<F) (hFF:F≤FF):∀(n:Nat) (l:List T_Item) (e:Nat),b.length - e≤n→e≤b.length→Lst l→l.length≤e→
    ∃l2 e2,Reads F b l e l2 e2∧flash_readP F b e2=some none∧e2≤b.length∧Lst l2∧l2.length≤e2:=by
  intro n
  induction n with
  | zero=>
    intro l e h1 h2 h3 h4
    exact⟨l,e,.refl ..,readP_end F b e hl h2 (by omega),h2,h3,h4⟩
  | succ n ih=>
    intro l e h1 h2 h3 h4
    by_cases hr:∃k v,RecAt b e k v
    · obtain⟨k,v,hr⟩:=hr
      have hfit:=hr.fit
      obtain⟨m,m1,_,m3,m4⟩:=set_both F l ⟨k,v⟩ h3 hr.k0 hr.k1 hr.vb hr.vl (by omega) hF
      obtain⟨l2,e2,r1,r2⟩:=ih m (e+8+v.length) (by omega) hfit m3 (by omega)
      exact⟨l2,e2,.step hr m1 r1,r2⟩
    · exact⟨l,e,.refl ..,readP_none (fun k v h=>hr ⟨k,v,h⟩) h2 hb hl hF hFF,h2,h3,h4⟩
theorem norec_255 (h:∀i,e≤i→i<b.length→b[i]? = some 255) (k:Int) (v:List Int):¬ RecAt b e k v:=fun hr=>by
  have h1:=hr.get (i:=v.length+7) (by omega)
  have hf:=hr.fit
  rw [rec_last,h _ (by omega) (by omega)] at h1
  exact absurd (Option.some.inj h1) (by decide)
theorem norec_part (j:Nat) (hj:j<(recB k v).length) (h0:∀i,i<j→b[e+i]? = (recB k v)[i]?) (h1:∀i,e+j≤i→i<b.length→b[i]? = some 255) (hv:v.length≤1024) (k':Int) (v':List Int):¬ RecAt b e k' v':=fun hr=>by
  have hf:=hr.fit
  have hvl:=hr.vl
  rw [recB_len] at hj
  by_cases h2:2≤j
  · have a0:=hr.get (i:=0) (by omega)
    have a1:=hr.get (i:=1) (by omega)
    rw [h0 0 (by omega),rec_at0,rec_at0] at a0
    rw [h0 1 (by omega),rec_at1,rec_at1] at a1
    have a0:=Option.some.inj a0
    have a1:=Option.some.inj a1
    have hlen:v.length=v'.length:=by omega
    have a7:=hr.get (i:=v'.length+7) (by omega)
    rw [rec_last,h1 _ (by omega) (by omega)] at a7
    exact absurd (Option.some.inj a7) (by decide)
  · have a1:=hr.get (i:=1) (by omega)
    rw [rec_at1,h1 _ (by omega) (by omega)] at a1
    have a1:=Option.some.inj a1
    omega
end
structure Head (b:List Int) (n:Int):Prop where
  l:10≤b.length
  eq:sl b 0 10=headB n
  n0:0≤n
  n1:n<4294967296
theorem head_at0 (n:Int):(headB n)[0]? = some 66:=rfl
theorem head_last (n:Int):(headB n)[9]? = some 0:=by
  have:=seal_last ([66,75]++leb 4 n)
  rw [List.length_append,leb_length] at this
  exact this
theorem head_sl (n:Int):sl (headB n) 2 6=leb 4 n:=by
  have:=sl_mid [66,75] (leb 4 n) (leb 3 (crcs 0 ([66,75]++leb 4 n):Nat)++[0])
  rw [leb_length] at this
  rw [← this]
  unfold headB sealB
  simp only [List.append_assoc]
  rfl
theorem Head.get {b:List Int} {n:Int} (h:Head b n) {i:Nat} (hi:i<10):b[i]? = (headB n)[i]?:=by
  rw [← h.eq,sl_get _ _ _ _ (by omega),Nat.zero_add]
theorem Head.s2 {b:List Int} {n:Int} (h:Head b n):sl b 2 6=leb 4 n:=by
  have:=sl_sl b 0 10 2 6 (by omega)
  rw [h.eq,head_sl] at this
  exact this.symm
theorem nohead0 {b:List Int} (h:b[0]? = some 255) (n:Int):¬ Head b n:=fun hh=>by
  have:=hh.get (i:=0) (by omega)
  rw [h,head_at0] at this
  exact absurd (Option.some.inj this) (by decide)
theorem nohead9 {b:List Int} (h:b[9]? = some 255) (n:Int):¬ Head b n:=fun hh=>by
  have:=hh.get (i:=9) (by omega)
  rw [h,head_last] at this
  exact absurd (Option.some.inj this) (by decide)
theorem count_head {F:Nat} {b:List Int} {n:Int} (h:Head b n) (hb:∀x∈b,Byte x) (hF:200000<F) (hFF:F≤FF):flash_count F b=some n:=by
  unfold flash_count
  have hl:=h.l
  rw [len_nat,if_neg (df (by omega)),show sub b 2 6=some (sl b 2 6) from sub_sl b 2 6 (by omega) (by omega),Option.bind_some]
  have n0:=h.n0
  have n1:=h.n1
  have e1:num (leb 4 n)=n:=by rw [num_leb,show (256:Int) ^ 4=4294967296 from rfl,Int.emod_eq_of_lt n0 n1]
  rw [value_eq F _ (sl_byte hb _ _) (by rw [h.s2,leb_length]; omega) (by omega),h.s2,e1,Option.bind_some]
  rw [show sub b 0 10=some (sl b 0 10) from sub_sl b 0 10 (by omega) (by omega)]
  rw [header_eq F n n0 n1 (by omega) hFF,Option.bind_some,Option.bind_some,h.eq,equal_eq F _ _ (by rw [headB_len]; omega) (by omega),Option.bind_some]
  unfold flash_count_j1
  rw [if_neg (by simp)]
theorem count_none {F:Nat} {b:List Int} (h:∀n,¬ Head b n) (hb:∀x∈b,Byte x) (hF:200000<F) (hFF:F≤FF):flash_count F b=some (-1):=by
  obtain⟨c,c1,_⟩:=count_both F b hb hF hFF
  rw [c1]
  unfold flash_count at c1
  rw [len_nat] at c1
  by_cases hl:10≤b.length
  · rw [if_neg (df (by omega)),show sub b 2 6=some (sl b 2 6) from sub_sl b 2 6 (by omega) (by omega),Option.bind_some] at c1
    obtain⟨n,hn,hn1⟩:=num4 hb hl
    have l2:(sl b 2 6).length=4:=sl_len (by omega) (by omega)
    have hw:w64 (n:Int)=(n:Int):=w64_id (by omega) (by omega)
    rw [value_eq F _ (sl_byte hb _ _) (by omega) (by omega),hn,Option.bind_some,show sub b 0 10=some (sl b 0 10) from sub_sl b 0 10 (by omega) (by omega),header_eq F n (by omega) (by omega) (by omega) hFF,Option.bind_some,Option.bind_some,equal_eq F _ _ (by rw [headB_len]; omega) (by omega),Option.bind_some] at c1
    unfold flash_count_j1 at c1
    by_cases hq:headB (n:Int)=sl b 0 10
    · exact absurd ⟨hl,hq.symm,by omega,by omega⟩ (h n)
    · rw [if_pos (by simp [hq])] at c1
      exact c1.symm
  · rw [if_pos (dt (by omega))] at c1
    exact c1.symm
theorem set_snoc {F:Nat} {l:List T_Item} {x:T_Item} (h:Lst (l++[x])) (hl:l.length≤100000) (hF:200000<F):flash_set F l x=some (l++[x]):=by
  have ha:∀y∈l,y.Key<x.Key:=fun y hy=>(List.pairwise_append.1 h.ord).2.2 y hy x (by simp)
  have:=set_eq F l [] x ha (fun _ h=>by cases h) (by simpa using hl) hF
  rw [List.append_nil] at this
  rw [this]
  unfold setL
  rw [if_neg (h.ok x (by simp)).vn]
  simp [hd]
theorem lst_pre {a b:List T_Item} (h:Lst (a++b)):Lst a:=⟨(List.pairwise_append.1 h.ord).1,fun x hx=>h.ok x (List.mem_append_left _ hx)⟩
theorem reads_recs {F:Nat} (hF:200000<F):∀(m l:List T_Item) (p q:List Int),Lst (l++m)→(l++m).length≤100000→Reads F (p++(recs m++q)) l p.length (l++m) (p.length+(recs m).length)
  | [],l,p,q,_,_=>by
    rw [List.append_nil]
    exact .refl ..
  | x::m,l,p,q,h,hn=>by
    have e1:l++x::m=(l++[x])++m:=by simp
    rw [e1] at h hn ⊢
    have e2:recs (x::m)=recB x.Key x.Value++recs m:=by simp [recs]
    have hx:=(h.ok x (by simp))
    have ih:=reads_recs hF m (l++[x]) (p++recB x.Key x.Value) q h hn
    rw [List.length_append,recB_len,List.append_assoc] at ih
    rw [e2,List.length_append,recB_len,List.append_assoc]
    have hr:RecAt (p++(recB x.Key x.Value++(recs m++q))) p.length x.Key x.Value:=by
      refine ⟨hx.vl,by simp [recB_len]; omega,?_,hx.vb,hx.k0,hx.k1⟩
      have:=sl_mid p (recB x.Key x.Value) (recs m++q)
      rw [recB_len] at this
      rw [show p.length+8+x.Value.length=p.length+(x.Value.length+8) from by omega]
      exact this
    refine .step hr (set_snoc (lst_pre h) (by simp at hn; omega) hF) ?_
    rw [show p.length+(x.Value.length+8)=p.length+8+x.Value.length from by omega] at ih
    rw [show p.length+(x.Value.length+8+(recs m).length)=p.length+8+x.Value.length+(recs m).length from by omega]
    exact ih
structure Act (F:Nat) (b:List Int) (c:Int) (l:List T_Item) (e:Nat):Prop where
  h:Head b c
  r:Reads F b [] 10 l e
  n:flash_readP F b e=some none
  e1:e≤b.length
  lst:Lst l
  ll:l.length≤e
def endOf (b:List Int) (e:Nat):Int:=if ((sl b e b.length).any fun x=>x != 255)=true then (b.length:Int) else e
structure Mmy (f:T_Flash) (N:Nat):Prop where
  l1:f.Banks.1.length=N
  l2:f.Banks.2.length=N
  n0:64≤N
  n1:N≤65536
  b1:∀x∈f.Banks.1,Byte x
  b2:∀x∈f.Banks.2,Byte x
inductive Mnt (F:Nat) (f:T_Flash):T_Store→Prop where
  | none (h1:∀n,¬ Head f.Banks.1 n) (h2:∀n,¬ Head f.Banks.2 n):Mnt F f ⟨f,0,0,f.Banks.1.length,[]⟩
  | zero {c:Int} {l:List T_Item} {e:Nat} (h1:Act F f.Banks.1 c l e) (h2:∀d,Head f.Banks.2 d→d≤c):Mnt F f ⟨f,0,c,endOf f.Banks.1 e,l⟩
  | one {c:Int} {l:List T_Item} {e:Nat} (h1:Act F f.Banks.2 c l e) (h2:∀d,Head f.Banks.1 d→d<c):Mnt F f ⟨f,1,c,endOf f.Banks.2 e,l⟩
theorem head_one {F:Nat} {b:List Int} {c d:Int} (h:Head b c) (h2:Head b d) (hb:∀x∈b,Byte x) (hF:200000<F) (hFF:F≤FF):c=d:=by
  have:=count_head h hb hF hFF
  rw [count_head h2 hb hF hFF] at this
  exact (Option.some.inj this).symm
theorem act_ex {F:Nat} {b:List Int} (hb:∀x∈b,Byte x) (hl:b.length≤65536) (hF:200000<F) (hFF:F≤FF):(∀n,¬ Head b n)∨∃c l e,Act F b c l e:=by
  by_cases h:∃n,Head b n
  · obtain⟨n,h⟩:=h
    obtain⟨l,e,r1,r2,r3,r4,r5⟩:=reads_ex hb hl hF hFF b.length [] 10 (by omega) h.l lst_nil (by simp)
    exact .inr ⟨n,l,e,h,r1,r2,r3,r4,r5⟩
  · exact .inl fun n hn=>h ⟨n,hn⟩
theorem mnt_ex {F:Nat} {f:T_Flash} {N:Nat} (hm:Mmy f N) (hF:200000<F) (hFF:F≤FF):∃s,Mnt F f s:=by
  obtain⟨l1,l2,n0,n1,b1,b2⟩:=hm
  rcases act_ex b1 (by omega) hF hFF with h1 | ⟨c,l,e,h1⟩
  · rcases act_ex b2 (by omega) hF hFF with h2 | ⟨d,m,g,h2⟩
    · exact⟨_,.none h1 h2⟩
    · exact⟨_,.one h2 fun d hd=>absurd hd (h1 d)⟩
  · rcases act_ex b2 (by omega) hF hFF with h2 | ⟨d,m,g,h2⟩
    · exact⟨_,.zero h1 fun d hd=>absurd hd (h2 d)⟩
    · by_cases hcd:d≤c
      · exact⟨_,.zero h1 fun d' hd=>by have:=head_one hd h2.h b2 hF hFF; omega⟩
      · exact⟨_,.one h2 fun d' hd=>by have:=head_one hd h1.h b1 hF hFF; omega⟩
theorem act_bank {F:Nat} {b:List Int} {c:Int} {l:List T_Item} {e:Nat} (h:Act F b c l e) (f:T_Flash) (hN:b.length=f.Banks.1.length) (hb:∀x∈b,Byte x) (hl:b.length≤65536) (hF:200000<F) (hFF:F≤FF) :
    flash_contents F b=some (l,(e:Int))∧sub b (e:Int) (len b)=some (sl b e b.length)∧iter (fun s:Int=>flash_Mount_l1 F f (l,(e:Int)) (sl b e b.length) s) F 0=some (endOf b e):=by
  have h1:=h.e1
  have h2:=h.r.mono
  refine ⟨h.r.run h.n hb hl hF hFF F (by omega),sub_sl b e b.length h1 (Nat.le_refl _),?_⟩
  rw [tail_loop F f (l,(e:Int)) _ (by rw [sl_len h1 (Nat.le_refl _)]; omega) hF]
  unfold endOf
  rw [len_nat,hN]
theorem mount_of {F:Nat} {f:T_Flash} {N:Nat} {s:T_Store} (hm:Mmy f N) (h:Mnt F f s) (hF:200000<F) (hFF:F≤FF):flash_Mount F f=some (s,0):=by
  obtain⟨l1,l2,n0,n1,b1,b2⟩:=hm
  unfold flash_Mount flash_fits
  rw [len_nat,len_nat]
  have q1:¬ (((f.Banks.2.length:Int)) != (f.Banks.1.length:Int))=true:=by simp; omega
  have q3:(!((decide ((f.Banks.1.length:Int)≥64))&&(decide ((f.Banks.1.length:Int)≤65536))))=false:=by simp; omega
  rw [if_neg q1,Option.bind_some,q3,Option.bind_some,if_neg (by decide),copied_id F f (by omega) (by omega) (by omega),Option.bind_some]
  cases h with
  | none h1 h2=>
    rw [count_none h1 b1 hF hFF,count_none h2 b2 hF hFF,Option.bind_some,Option.bind_some]
    unfold flash_Mount_j1
    rw [if_neg (by decide)]
    unfold flash_Mount_j2
    rw [if_pos (show ((0:Int) == 0)=true from rfl),if_pos (by decide)]
    rfl
  | @zero c l e h1 h2=>
    have hc0:=h1.h.n0
    have hd:∃d,flash_count F f.Banks.2=some d∧d≤c:=by
      by_cases hh:∃n,Head f.Banks.2 n
      · obtain⟨n,hh⟩:=hh
        exact⟨n,count_head hh b2 hF hFF,h2 n hh⟩
      · exact⟨-1,count_none (fun n hn=>hh ⟨n,hn⟩) b2 hF hFF,by omega⟩
    obtain⟨d,hd1,hd2⟩:=hd
    rw [count_head h1.h b1 hF hFF,hd1,Option.bind_some,Option.bind_some]
    obtain⟨a1,a2,a3⟩:=act_bank h1 f rfl b1 (by omega) hF hFF
    unfold flash_Mount_j1
    rw [if_neg (df (by omega))]
    unfold flash_Mount_j2 flash_Mount_j3
    rw [if_pos (by decide),if_neg (df (by omega)),if_pos (by decide)]
    rw [a1,Option.bind_some]
    simp only
    rw [a2,Option.bind_some,a3,Option.bind_some]
    rfl
  | @one c l e h1 h2=>
    have hc0:=h1.h.n0
    have hd:∃d,flash_count F f.Banks.1=some d∧d<c:=by
      by_cases hh:∃n,Head f.Banks.1 n
      · obtain⟨n,hh⟩:=hh
        exact⟨n,count_head hh b1 hF hFF,h2 n hh⟩
      · exact⟨-1,count_none (fun n hn=>hh ⟨n,hn⟩) b1 hF hFF,by omega⟩
    obtain⟨d,hd1,hd2⟩:=hd
    rw [count_head h1.h b2 hF hFF,hd1,Option.bind_some,Option.bind_some]
    obtain⟨a1,a2,a3⟩:=act_bank h1 f (by omega) b2 (by omega) hF hFF
    unfold flash_Mount_j1
    rw [if_pos (dt (by omega))]
    unfold flash_Mount_j2 flash_Mount_j3
    rw [if_neg (by decide),if_pos (by decide),if_neg (df (by omega)),if_neg (by decide),if_pos (by decide)]
    rw [a1,Option.bind_some]
    simp only
    rw [a2,Option.bind_some,m_l2,a3,Option.bind_some]
    rfl
theorem endOf_cases {b:List Int} {e:Nat} (he:e≤b.length):endOf b e=b.length∨(endOf b e=e∧b=b.take e++List.replicate (b.length - e) 255):=by
  unfold endOf
  cases h:(sl b e b.length).any fun x=>x != 255
  · right
    refine ⟨by simp,?_⟩
    have h2:=rep_any (sl b e b.length)
    rw [h,sl_len he (Nat.le_refl _)] at h2
    have h3:sl b e b.length=List.replicate (b.length - e) 255:=by simpa using h2
    unfold sl at h3
    rw [List.take_length] at h3
    rw [← h3,List.take_append_drop]
  · left
    simp
theorem mnt_mtd {F:Nat} {f:T_Flash} {N:Nat} {s:T_Store} (hm:Mmy f N) (h:Mnt F f s):Mtd f s:=by
  obtain⟨l1,l2,n0,n1,b1,b2⟩:=hm
  have hsz:f.Banks.1.length=f.Banks.2.length∧64≤f.Banks.1.length∧f.Banks.1.length≤65536:=by omega
  cases h with
  | none h1 h2=>exact⟨rfl,.inl rfl,by simp only; omega,by simp only; omega,by simp,by simp,lst_nil,by simp,hsz⟩
  | @zero c l e h1 h2=>
    have:=h1.e1
    have:=h1.ll
    have hE:0≤endOf f.Banks.1 e∧endOf f.Banks.1 e≤f.Banks.1.length:=by unfold endOf; split <;> omega
    exact⟨rfl,.inl rfl,hE.1,hE.2,h1.h.n0,h1.h.n1,h1.lst,by simp only; omega,hsz⟩
  | @one c l e h1 h2=>
    have:=h1.e1
    have:=h1.ll
    have hE:0≤endOf f.Banks.2 e∧endOf f.Banks.2 e≤f.Banks.1.length:=by unfold endOf; split <;> omega
    exact⟨rfl,.inr rfl,hE.1,hE.2,h1.h.n0,h1.h.n1,h1.lst,by simp only; omega,hsz⟩
theorem act_app {F:Nat} {b:List Int} {c:Int} {l:List T_Item} {e:Nat} (h:Act F b c l e) (hb:∀x∈b,Byte x) (hl:b.length≤65536) (hF:200000<F) (hFF:F≤FF)
    {q:Nat} (hall:b=b.take e++List.replicate q 255) {k:Int} {v:List Int} (k0:0≤k) (k1:k<65536) (vb:∀x∈v,Byte x) (vl:v.length≤1024) (hq:(recB k v).length≤q) {m:List T_Item} (hs:flash_set F l ⟨k,v⟩=some m) (hm:Lst m) (hml:m.length≤l.length+1) (j:Nat) (hj:j≤(recB k v).length) :
    ∃l' e',Act F (b.take e++((recB k v).take j++List.replicate (q - j) 255)) c l' e'∧(j<(recB k v).length→l'=l)∧(j=(recB k v).length→l'=m):=by
  have he:=h.e1
  have h10:=h.r.mono
  have hll:=h.ll
  have hrl:=recB_len k v
  have hte:(b.take e).length=e:=by rw [List.length_take]; omega
  have hjl:((recB k v).take j).length=j:=by rw [List.length_take]; omega
  have hbq:e+q=b.length:=by
    have:=congrArg List.length hall
    rw [List.length_append,hte,List.length_replicate] at this
    exact this.symm
  have hlen:(b.take e++((recB k v).take j++List.replicate (q - j) 255)).length=b.length:=by
    rw [List.length_append,List.length_append,hte,hjl,List.length_replicate]
    omega
  have hby:∀x∈b.take e++((recB k v).take j++List.replicate (q - j) 255),Byte x:=byte_app (fun x hx=>hb x (List.mem_of_mem_take hx)) (byte_app (fun x hx=>seal_byte (rec_in _ vb) x (List.mem_of_mem_take hx)) (rep_byte _))
  have htk:∀z:List Int,b.take e=(b.take e++z).take e:=fun z=>by
    have:=List.take_left (l₁:=b.take e) (l₂:=z)
    rw [hte] at this
    exact this.symm
  have hhead:Head (b.take e++((recB k v).take j++List.replicate (q - j) 255)) c:=⟨by omega,by rw [← sl_take (htk _) h10]; exact h.h.eq,h.h.n0,h.h.n1⟩
  have hget:∀i,j≤i→e+i<b.length→(b.take e++((recB k v).take j++List.replicate (q - j) 255))[e+i]? = some 255:=fun i hi hi2=>by
    rw [List.getElem?_append_right (by omega),hte,List.getElem?_append_right (by omega),hjl,List.getElem?_replicate,if_pos]
    rw [List.length_append,List.length_append,hte,hjl,List.length_replicate] at hlen
    omega
  by_cases hjq:j=(recB k v).length
  · refine ⟨m,e+8+v.length,⟨hhead,?_,?_,by omega,hm,by omega⟩,fun h=>by omega,fun _=>rfl⟩
    · refine (h.r.pre (htk _) (by omega)).trans (.step (k:=k) (v:=v) ⟨vl,by omega,?_,vb,k0,k1⟩ hs (.refl ..))
      have:=sl_mid (b.take e) (recB k v) (List.replicate (q - j) 255)
      rw [hte,hrl] at this
      rw [hjq,List.take_length,show e+8+v.length=e+(v.length+8) from by omega]
      rw [hjq] at this
      exact this
    · refine readP_none (norec_255 fun i hi hi2=>?_) (by omega) hby (by omega) hF hFF
      obtain⟨i,rfl⟩:∃z,i=e+z:=⟨i - e,by omega⟩
      exact hget i (by omega) (by omega)
  · refine ⟨l,e,⟨hhead,h.r.pre (htk _) (by omega),?_,by omega,h.lst,h.ll⟩,fun _=>rfl,fun h=>absurd h hjq⟩
    refine readP_none (norec_part (k:=k) (v:=v) j (by omega) (fun i hi=>?_) (fun i hi hi2=>?_) vl) (by omega) hby (by omega) hF hFF
    · rw [List.getElem?_append_right (by omega),hte,List.getElem?_append_left (by omega),List.getElem?_take,if_pos (by omega),show e+i - e=i from by omega]
    · obtain⟨i,rfl⟩:∃z,i=e+z:=⟨i - e,by omega⟩
      exact hget i (by omega) (by omega)
theorem act_new {F:Nat} (c:Int) (c0:0≤c) (c1:c<4294967296) {m:List T_Item} (hm:Lst m) (q:Nat) (hl:10+(recs m).length+q≤65536) (hml:m.length≤100000) (hF:200000<F) (hFF:F≤FF):Act F (headB c++(recs m++List.replicate q 255)) c m (10+(recs m).length):=by
  have hh:=headB_len c
  have hlen:(headB c++(recs m++List.replicate q 255)).length=10+(recs m).length+q:=by
    rw [List.length_append,List.length_append,hh,List.length_replicate]
    omega
  have hby:∀x∈headB c++(recs m++List.replicate q 255),Byte x:=byte_app (seal_byte (head_in c)) (byte_app (recs_byte m hm.ok) (rep_byte _))
  have hr:=reads_recs hF m [] (headB c) (List.replicate q 255) (by simpa using hm) (by simpa using hml)
  rw [hh,List.nil_append] at hr
  refine ⟨⟨by omega,?_,c0,c1⟩,hr,?_,by omega,hm,?_⟩
  · have:=sl_mid [] (headB c) (recs m++List.replicate q 255)
    rw [hh] at this
    exact this
  · refine readP_none (norec_255 fun i hi hi2=>?_) (by omega) hby (by omega) hF hFF
    rw [List.getElem?_append_right (by omega),List.getElem?_append_right (by omega),List.getElem?_replicate,if_pos (by omega)]
  · have:∀l:List T_Item,l.length≤(recs l).length:=fun l=>by
      induction l with
      | nil=>simp
      | cons x l ih=>
        have e2:recs (x::l)=recB x.Key x.Value++recs l:=by simp [recs]
        rw [e2,List.length_append,recB_len,List.length_cons]
        omega
    have:=this m
    omega
theorem iand255 {x:Int} (h:Byte x):iand .u8 255 x=x:=by
  have h1:∀y:Fin 256,iand .u8 255 (y.val:Int)=(y.val:Int):=by decide +kernel
  obtain⟨a,b⟩:=h
  have:=h1 ⟨x.toNat,by omega⟩
  simp only at this
  rwa [Int.toNat_of_nonneg a] at this
theorem erase_eq (F:Nat) (w:T_Write) (k:Nat) (b:List Int) (he:w.Erase=true) (hk:k≤b.length) (hb:b.length≤65536) (hF:200000<F):iter (fun s:List Int×Int=>flash_Apply_l1 F w (k:Int) s.1 s.2) F (b,0)=some (List.replicate k 255++b.drop k):=by
  have:=iter_count (body:=fun s:List Int×Int=>flash_Apply_l1 F w (k:Int) s.1 s.2) (fun i=>(List.replicate i (255:Int)++b.drop i,(i:Int))) k (List.replicate k 255++b.drop k) (by
    intro i hi
    have hd:b.drop i=b[i]::b.drop (i+1):=List.drop_eq_getElem_cons (by omega)
    have hlen:(List.replicate i (255:Int)++b.drop i).length=b.length:=by simp; omega
    have hx:=List.getElem?_eq_getElem (l:=List.replicate i (255:Int)++b.drop i) (i:=i) (by omega)
    show flash_Apply_l1 F w (k:Int) (List.replicate i 255++b.drop i) (i:Int)=_
    unfold flash_Apply_l1 flash_Apply_j4
    rw [if_pos (dt (by omega)),he,if_pos rfl,idx_nat,hx,Option.bind_some,upd_nat (by omega),Option.bind_some,w64_nat i (by omega),List.set_append_right _ _ (by simp),List.length_replicate,Nat.sub_self,hd,List.set_cons_zero,List.replicate_succ',List.append_assoc]
    rfl) (by
    show flash_Apply_l1 F w (k:Int) _ (k:Int)=_
    unfold flash_Apply_l1
    rw [if_neg (df (by omega))]) F 0 (by omega) (by omega)
  exact this
theorem write_eq (F:Nat) (w:T_Write) (k:Nat) (p r:List Int) (he:w.Erase=false) (ho:w.Offset=p.length) (hk:k≤w.Bytes.length) (hw:∀x∈w.Bytes,Byte x) (hb:p.length+k+r.length≤65536) (hF:200000<F):iter (fun s:List Int×Int=>flash_Apply_l1 F w (k:Int) s.1 s.2) F (p++(List.replicate k 255++r),0)=some (p++(w.Bytes.take k++r)):=by
  have:=iter_count (body:=fun s:List Int×Int=>flash_Apply_l1 F w (k:Int) s.1 s.2) (fun i=>(p++(w.Bytes.take i++(List.replicate (k - i) (255:Int)++r)),(i:Int))) k (p++(w.Bytes.take k++r)) (by
    intro i hi
    have hx:w.Bytes[i]? = some w.Bytes[i]:=List.getElem?_eq_getElem (by omega)
    have hby:=hw _ (List.getElem_mem (l:=w.Bytes) (n:=i) (by omega))
    have htl:(w.Bytes.take i).length=i:=by rw [List.length_take]; omega
    have hr:List.replicate (k - i) (255:Int)=255::List.replicate (k - (i+1)) 255:=by rw [show k - i=(k - (i+1))+1 from by omega,List.replicate_succ]
    rw [List.take_add_one,hx,Option.toList_some,hr]
    generalize w.Bytes[i]=x at *
    have hlen:(p++(w.Bytes.take i++(255::List.replicate (k - (i+1)) (255:Int)++r))).length=p.length+k+r.length:=by simp [htl]; omega
    have hg:(p++(w.Bytes.take i++(255::List.replicate (k - (i+1)) (255:Int)++r)))[p.length+i]? = some 255:=by
      rw [List.getElem?_append_right (by omega),List.getElem?_append_right (by omega),htl,show p.length+i - p.length - i=0 from by omega]
      rfl
    show flash_Apply_l1 F w (k:Int) (p++(w.Bytes.take i++(255::List.replicate (k - (i+1)) 255++r))) (i:Int)=_
    have hq:w64 (w.Offset+(i:Int))=((p.length+i:Nat):Int):=by rw [ho,w64_id (by omega) (by omega)]; omega
    unfold flash_Apply_l1 flash_Apply_j4
    rw [if_pos (dt (by omega)),he,if_neg (by decide),hq,if_pos (by rw [len_nat,hlen,ho]; simp; omega),idx_nat,hx,Option.bind_some,idx_nat,hg,Option.bind_some,Option.bind_some,Option.bind_some,upd_nat (by omega),Option.bind_some,w64_nat i (by omega),iand255 hby,List.set_append_right _ _ (by omega),List.set_append_right _ _ (by omega),htl,show p.length+i - p.length - i=0 from by omega,List.cons_append,List.set_cons_zero]
    simp only [List.append_assoc,List.cons_append,List.nil_append]) (by
    show flash_Apply_l1 F w (k:Int) _ (k:Int)=_
    unfold flash_Apply_l1
    rw [if_neg (df (by omega)),Nat.sub_self]
    rfl) F 0 (by omega) (by omega)
  simpa using this
def rB (f:T_Flash) (i:Int):List Int:=if i=0 then f.Banks.1 else f.Banks.2
def wB (f:T_Flash) (i:Int) (b:List Int):T_Flash:=if i=0 then ⟨(b,f.Banks.2)⟩ else ⟨(f.Banks.1,b)⟩
theorem rB_wB (f:T_Flash) (i:Int) (b:List Int):rB (wB f i b) i=b:=by
  unfold rB wB
  by_cases h:i=0
  · rw [if_pos h,if_pos h]
  · rw [if_neg h,if_neg h]
theorem wB_wB (f:T_Flash) (i:Int) (a b:List Int):wB (wB f i a) i b=wB f i b:=by
  unfold wB
  by_cases h:i=0
  · rw [if_pos h,if_pos h,if_pos h]
  · rw [if_neg h,if_neg h,if_neg h]
theorem wB_rB (f:T_Flash) (i:Int):wB f i (rB f i)=f:=by
  unfold wB rB
  by_cases h:i=0
  · rw [if_pos h,if_pos h]
  · rw [if_neg h,if_neg h]
theorem Mmy.rl {f:T_Flash} {N:Nat} (h:Mmy f N) (i:Int):(rB f i).length=N:=by
  unfold rB
  split
  · exact h.l1
  · exact h.l2
theorem Mmy.rb {f:T_Flash} {N:Nat} (h:Mmy f N) (i:Int):∀x∈rB f i,Byte x:=by
  unfold rB
  split
  · exact h.b1
  · exact h.b2
theorem Mmy.w {f:T_Flash} {N:Nat} (h:Mmy f N) (i:Int) {b:List Int} (hl:b.length=N) (hb:∀x∈b,Byte x):Mmy (wB f i b) N:=by
  unfold wB
  split
  · exact⟨hl,h.l2,h.n0,h.n1,hb,h.b2⟩
  · exact⟨h.l1,hl,h.n0,h.n1,h.b1,hb⟩
theorem apply_bank (F:Nat) {f:T_Flash} {N:Nat} (hm:Mmy f N) (w:T_Write) (n:Int) (hbk:w.Bank=0∨w.Bank=1) (o:List Int) (all:Int) (hall:(if w.Erase=true then (N:Int) else w.Bytes.length)=all) (h:iter (fun s:List Int×Int=>flash_Apply_l1 F w (eff n all) s.1 s.2) F (rB f w.Bank,0)=some o) (hF:200000<F):flash_Apply F f w n=some (wB f w.Bank o):=by
  have hl1:=hm.l1
  have hl2:=hm.l2
  have hn1:=hm.n1
  unfold flash_Apply
  rw [copied_id F f (by omega) (by omega) (by omega),Option.bind_some]
  have q1:¬ ((w.Bank != 0)&&(w.Bank != 1))=true:=by simp; omega
  rw [if_neg q1]
  unfold rB at h
  unfold wB
  rcases hbk with h0 | h0
  · rw [if_pos h0] at h
    rw [if_pos h0,if_pos (show (w.Bank == 0)=true by simp [h0])]
    cases he:w.Erase
    · rw [he,if_neg (by decide)] at hall
      rw [if_neg (by decide),j1_eff]
      unfold flash_Apply_j2
      rw [len_nat,hall,h]
      rfl
    · rw [he,if_pos rfl] at hall
      rw [if_pos rfl,j1_eff]
      unfold flash_Apply_j2
      rw [len_nat,hl1,hall,h]
      rfl
  · rw [if_neg (by omega)] at h
    rw [if_neg (show ¬ (w.Bank == 0)=true by simp [h0]),if_pos (show (w.Bank == 1)=true by simp [h0]),if_neg (show ¬ w.Bank=0 by omega)]
    cases he:w.Erase
    · rw [he,if_neg (by decide)] at hall
      rw [if_neg (by decide),j5_eff]
      unfold flash_Apply_j6
      rw [flash_l2,len_nat,hall,h]
      rfl
    · rw [he,if_pos rfl] at hall
      rw [if_pos rfl,j5_eff]
      unfold flash_Apply_j6
      rw [flash_l2,len_nat,hl2,hall,h]
      rfl
theorem eff_erase (F:Nat) {f:T_Flash} {N:Nat} (hm:Mmy f N) (i n:Int) (hi:i=0∨i=1) (k:Nat) (hk:eff n N=(k:Int)) (hkN:k≤N) (hF:200000<F):flash_Apply F f ⟨i,true,0,[]⟩ n=some (wB f i (List.replicate k 255++(rB f i).drop k)):=by
  refine apply_bank F hm _ n hi _ N (if_pos rfl) ?_ hF
  rw [hk]
  exact erase_eq F _ k _ rfl (by rw [hm.rl]; exact hkN) (by rw [hm.rl]; exact hm.n1) hF
theorem eff_write (F:Nat) {f:T_Flash} {N:Nat} (hm:Mmy f N) (i n off:Int) (B:List Int) (hi:i=0∨i=1) (k:Nat) (p r:List Int) (hk:eff n B.length=(k:Int)) (hkB:k≤B.length) (ho:off=p.length) (hB:∀x∈B,Byte x) (hp:rB f i=p++(List.replicate k 255++r)) (hF:200000<F):flash_Apply F f ⟨i,false,off,B⟩ n=some (wB f i (p++(B.take k++r))):=by
  refine apply_bank F hm _ n hi _ B.length (if_neg (show ¬ (false=true) by decide)) ?_ hF
  rw [hk]
  show iter _ F (rB f i,0)=_
  have hl:=hm.rl i
  have hn1:=hm.n1
  rw [hp] at hl ⊢
  simp only [List.length_append,List.length_replicate] at hl
  exact write_eq F ⟨i,false,off,B⟩ k p r rfl ho hkB hB (by omega) hF
theorem mnt_keep {F:Nat} {f:T_Flash} {N:Nat} {s:T_Store} (hm:Mmy f N) (h:Mnt F f s) {b:List Int} (hb:∀n,¬ Head b n) (hl:b.length=N):∃t,Mnt F (wB f (1 - s.Bank) b) t∧t.Items=s.Items:=by
  cases h with
  | none h1 h2=>exact⟨_,.none h1 hb,rfl⟩
  | zero h1 h2=>exact⟨_,.zero h1 fun d hd=>absurd hd (hb d),rfl⟩
  | one h1 h2=>exact⟨_,.one h1 fun d hd=>absurd hd (hb d),rfl⟩
theorem mnt_new {F:Nat} {f:T_Flash} {N:Nat} {s:T_Store} (hm:Mmy f N) (h:Mnt F f s) {b:List Int} {m:List T_Item} {e:Nat} (hb:Act F b (s.Count+1) m e) (hF:200000<F) (hFF:F≤FF):∃t,Mnt F (wB f (1 - s.Bank) b) t∧t.Items=m:=by
  cases h with
  | none h1 h2=>exact⟨_,.one hb fun d hd=>absurd hd (h1 d),rfl⟩
  | zero h1 h2=>
    refine ⟨_,.one hb fun d hd=>?_,rfl⟩
    have:=head_one hd h1.h hm.b1 hF hFF
    simp only
    omega
  | one h1 h2=>
    refine ⟨_,.zero hb fun d hd=>?_,rfl⟩
    have:=head_one hd h1.h hm.b2 hF hFF
    simp only
    omega
theorem mnt_free {F:Nat} {f:T_Flash} {N:Nat} {s:T_Store} (hm:Mmy f N) (h:Mnt F f s) (hfree:0<(N:Int) - s.End):∃c e,Act F (rB f s.Bank) c s.Items e∧s.End=(e:Int)∧rB f s.Bank=(rB f s.Bank).take e++List.replicate (N - e) 255∧(∀b' l' e',Act F b' c l' e'→∃t,Mnt F (wB f s.Bank b') t∧t.Items=l'):=by
  have hl1:=hm.l1
  have hl2:=hm.l2
  cases h with
  | none h1 h2=>simp only at hfree; omega
  | @zero c l e h1 h2=>
    simp only at hfree
    rcases endOf_cases h1.e1 with h3 | ⟨h3,h4⟩
    · omega
    · rw [hl1] at h4
      exact⟨c,e,h1,h3,h4,fun b' l' e' ha=>⟨_,.zero ha h2,rfl⟩⟩
  | @one c l e h1 h2=>
    simp only at hfree
    rcases endOf_cases h1.e1 with h3 | ⟨h3,h4⟩
    · omega
    · rw [hl2] at h4
      exact⟨c,e,h1,h3,h4,fun b' l' e' ha=>⟨_,.one ha h2,rfl⟩⟩
theorem eff_min {n:Int} {all:Nat} (h:0≤n):eff n all=((min n.toNat all:Nat):Int):=by
  unfold eff
  split <;> omega
theorem app_end {F:Nat} {f:T_Flash} {N:Nat} {s:T_Store} (hm:Mmy f N) (h:Mnt F f s) {k:Int} (k0:0≤k) (k1:k<65536) {v:List Int} (vb:∀x∈v,Byte x) (hv:v.length≤1024) (hr:((recB k v).length:Int)≤N - s.End) {m:List T_Item} (hs:flash_set F s.Items ⟨k,v⟩=some m) (hml:Lst m) (hmn:m.length≤s.Items.length+1) (n:Int) (j:Nat) (hn:eff n (recB k v).length=(j:Int)) (hj:j≤(recB k v).length) (hF:200000<F) (hFF:F≤FF) :
    ∃f' t,flash_Apply F f ⟨s.Bank,false,s.End,recB k v⟩ n=some f'∧Mmy f' N∧Mnt F f' t∧(j<(recB k v).length→t.Items=s.Items)∧(j=(recB k v).length→t.Items=m):=by
  have hlen:=recB_len k v
  have hbk:=(mnt_mtd hm h).bk
  have hmn1:=hm.n1
  obtain⟨c,e,a1,a2,a3,a4⟩:=mnt_free hm h (by omega)
  have hae:=a1.e1
  have hrl:=hm.rl s.Bank
  have hte:((rB f s.Bank).take e).length=e:=by rw [List.length_take]; omega
  obtain⟨l',e',b1,b2,b3⟩:=act_app a1 (hm.rb _) (by omega) hF hFF a3 k0 k1 vb hv (by omega) hs hml hmn j hj
  obtain⟨t,t1,t2⟩:=a4 _ _ _ b1
  have hby:∀x∈recB k v,Byte x:=seal_byte (rec_in _ vb)
  have hw:=eff_write F hm s.Bank n s.End (recB k v) hbk j ((rB f s.Bank).take e) (List.replicate (N - e - j) 255) hn hj (by omega) hby (by
    rw [List.replicate_append_replicate,show j+(N - e - j)=N - e from by omega]
    exact a3) hF
  refine ⟨_,t,hw,hm.w _ ?_ ?_,t1,fun hq=>t2.trans (b2 hq),fun hq=>t2.trans (b3 hq)⟩
  · simp only [List.length_append,hte,List.length_take,List.length_replicate]
    omega
  · exact byte_app (fun x hx=>hm.rb _ x (List.mem_of_mem_take hx)) (byte_app (fun x hx=>hby x (List.mem_of_mem_take hx)) (rep_byte _))
theorem setI_same {F:Nat} {l:List T_Item} (h:Lst l) {k:Int} {v:List Int} (hs:same l k v=true) (hl:l.length≤100000) (hF:200000<F):flash_set F l ⟨k,v⟩=some l:=by
  obtain⟨a,b,rfl,ha,hb⟩:=split_at k l h.ord
  rw [set_eq F a b ⟨k,v⟩ ha hb hl hF]
  unfold setL
  unfold same at hs
  have hna:a.find? (fun x=>x.Key == k)=none:=List.find?_eq_none.2 fun x hx=>by have:=ha x hx; simp; omega
  rw [List.find?_append,hna,Option.none_or] at hs
  cases b with
  | nil=>
    have hv:v=[]:=by simpa using hs
    simp [hv,hd]
  | cons y b=>
    by_cases hk:y.Key=k
    · have hq:(y.Key == k)=true:=by simp [hk]
      rw [List.find?_cons,hq] at hs
      have hv:y.Value=v:=by simpa using hs
      have hvn:=(h.ok y (by simp)).vn
      have hy:(⟨k,v⟩:T_Item)=y:=by
        subst hk hv
        rfl
      rw [hy,if_neg hvn,if_pos (by simp [hd])]
      simp
    · have hq:(y.Key == k)=false:=by simp [hk]
      have hbb:b.find? (fun x=>x.Key == k)=none:=List.find?_eq_none.2 fun x hx=>by
        have h1:=(List.pairwise_cons.1 (List.pairwise_append.1 h.ord).2.1).1 x hx
        have h2:=hb y (by simp)
        simp
        omega
      rw [List.find?_cons,hq,hbb] at hs
      have hv:v=[]:=by simpa using hs
      simp [hv,hd,hk]
theorem nohead_rep {k:Nat} (hk:0<k) (r:List Int) (n:Int):¬ Head (List.replicate k 255++r) n:=by
  obtain⟨k,rfl⟩:∃z,k=z+1:=⟨k - 1,by omega⟩
  exact nohead0 (by rw [List.replicate_succ]; rfl) n
theorem blank_mem (F:Nat) (N:Nat) (h0:64≤N) (h1:N≤4096) (hF:200000<F):flash_Blank F N=some (⟨(List.replicate N 255,List.replicate N 255)⟩,0):=by
  have key:flash_erased F (N:Int)=some (List.replicate N 255):=by
    unfold flash_erased
    rw [mk_small (by omega) (by decide),Option.bind_some]
    have h:iter (fun s:List Int×Int=>flash_erased_l1 F (List.replicate N 0) s.1 s.2) F (List.replicate N 0,0)=some (List.replicate N 255):=iter_count (body:=fun s:List Int×Int=>flash_erased_l1 F (List.replicate N 0) s.1 s.2) (fun i=>(List.replicate i 255++List.replicate (N - i) 0,(i:Int))) N (List.replicate N 255) (by
      intro i hi
      show flash_erased_l1 F (List.replicate N 0) (List.replicate i 255++List.replicate (N - i) 0) (i:Int)=_
      unfold flash_erased_l1
      have hx:=List.getElem?_eq_getElem (l:=List.replicate i (255:Int)++List.replicate (N - i) 0) (i:=i) (by simp; omega)
      have hlen:(List.replicate i (255:Int)++List.replicate (N - i) 0).length=N:=by simp; omega
      rw [if_pos (dt (by rw [len_nat,List.length_replicate]; omega)),idx_nat,hx,Option.bind_some,upd_nat (by omega),Option.bind_some,set_rep N i hi,w64_nat i (by omega)]) (by
      show flash_erased_l1 F _ _ ((N:Nat):Int)=_
      unfold flash_erased_l1
      rw [if_neg (df (by rw [len_nat]; simp)),Nat.sub_self,List.replicate_zero,List.append_nil]) F 0 (by omega) (by omega)
    rw [h]
    rfl
  unfold flash_Blank flash_fits
  have q3:(!((decide ((N:Int)≥64))&&(decide ((N:Int)≤65536))))=false:=by simp; omega
  rw [Option.bind_some,q3,if_neg (by decide),key,Option.bind_some,Option.bind_some]
inductive Apl (F:Nat):T_Flash→List T_Write→T_Flash→Prop where
  | nil (f:T_Flash):Apl F f [] f
  | cons {f g h:T_Flash} {w:T_Write} {ws:List T_Write} (a:flash_Apply F f w (-1)=some g) (t:Apl F g ws h):Apl F f (w::ws) h
theorem Apl.app {F:Nat} {f g h:T_Flash} {a b:List T_Write} (x:Apl F f a g) (y:Apl F g b h):Apl F f (a++b) h:=by
  induction x with
  | nil=>exact y
  | cons a t ih=>exact .cons a (ih y)
theorem put_next {F:Nat} {ws:List T_Write} {e:Int} {c c':T_Flash} {i n:Nat} {w:T_Write} (hx:ws[i]? = some w) (ha:flash_Apply F c w (-1)=some c') (hi:i≤100):iter (fun s:T_Flash×Int=>flash_Put_l1 F (ws,e) s.1 s.2) (n+1) (c,(i:Int))=iter (fun s:T_Flash×Int=>flash_Put_l1 F (ws,e) s.1 s.2) n (c',((i+1:Nat):Int)):=by
  have hin:i<ws.length:=(List.getElem?_eq_some_iff.1 hx).1
  refine iter_step ?_
  show flash_Put_l1 F (ws,e) c (i:Int)=_
  unfold flash_Put_l1
  rw [if_pos (dt (by rw [len_nat]; simp only; omega)),idx_nat]
  simp only
  rw [hx,Option.bind_some,ha,Option.bind_some,w64_nat i (by omega)]
theorem put_stop {F:Nat} {ws:List T_Write} {e:Int} {c:T_Flash} {n:Nat}:iter (fun s:T_Flash×Int=>flash_Put_l1 F (ws,e) s.1 s.2) (n+1) (c,(ws.length:Int))=some c:=by
  refine iter_stop ?_
  show flash_Put_l1 F (ws,e) c (ws.length:Int)=_
  unfold flash_Put_l1
  rw [if_neg (df (by rw [len_nat]; simp))]
theorem eff_all (all:Nat):eff (-1) all=(all:Int):=by
  unfold eff
  rw [if_pos (.inl (by decide))]
theorem put_all {F:Nat} {f:T_Flash} {N:Nat} {s:T_Store} (hm:Mmy f N) (h:Mnt F f s) {k:Int} (k0:0≤k) (k1:k<65536) {v:List Int} (vb:∀x∈v,Byte x) (hF:200000<F) (hFF:F≤FF) :
    ∃m ws t e,flash_Plan F s k v=some (ws,e)∧flash_Put F s k v=some (t,e)∧((e=0∧∃f',flash_set F s.Items ⟨k,v⟩=some m∧Lst m∧m.length≤s.Items.length+1∧Mmy f' N∧Mnt F f' t∧t.Items=m∧Apl F f ws f'∧PlanOk s k v m ws 0)∨((e=4∨e=8)∧(e=4→1024<v.length)∧t=s)):=by
  have hmt:=mnt_mtd hm h
  have hbk:=hmt.bk
  have hil:=hmt.il
  have hmn0:=hm.n0
  have hmn1:=hm.n1
  have hl1:=hm.l1
  have hl2:=hm.l2
  obtain⟨m,ws,e,p1,p2,p3,p4,p5⟩:=plan_both F f s hmt (by omega) k k0 k1 v vb hF hFF
  obtain⟨hw,hn,he,hee⟩:=plan_ok f hmt (by omega) p4
  have he4:e=4→1024<v.length:=fun h=>by subst h; cases p4; assumption
  refine ⟨m,ws,?_⟩
  unfold flash_Put
  rw [p2,Option.bind_some]
  simp only
  by_cases h0:e=0
  · subst h0
    have hv:v.length≤1024:=by cases p4 <;> assumption
    obtain⟨q1,q2⟩:=p5 hv
    obtain⟨m',m1,m2,_,_⟩:=set_both F s.Items ⟨k,v⟩ hmt.it k0 k1 vb hv (by omega) hF
    have p1:=p1 hv
    simp only at m2
    rw [p1] at m2
    obtain rfl:=Option.some.inj m2
    obtain⟨F',hF'⟩:∃F',F=F'+1+1+1+1:=⟨F - 4,by omega⟩
    have p4c:=p4
    have m1c:=m1
    cases p4 with
    | same hsm _=>
      rw [setI_same hmt.it hsm (by omega) hF] at m1
      have hs:=Option.some.inj m1
      rw [if_pos (by decide),kept_id F f s hmt (by omega) (by omega) hF,Option.bind_some]
      exact⟨s,0,rfl,rfl,.inl ⟨rfl,f,m1c,q1,q2,hm,h,hs,.nil f,p4c⟩⟩
    | app _ hr=>
      rw [hmt.fl,hl1] at hr
      rw [if_neg (by simp [len]),hmt.fl]
      obtain⟨f',t,a1,a2,a3,a4,a5⟩:=app_end hm h k0 k1 vb hv hr m1 q1 q2 (-1) (recB k v).length (eff_all _) (Nat.le_refl _) hF hFF
      have h1:=put_next (F:=F) (ws:=[⟨s.Bank,false,s.End,recB k v⟩]) (e:=0) (c:=f) (i:=0) (n:=F'+1+1+1) rfl a1 (by omega)
      have h2:=put_stop (F:=F) (ws:=[⟨s.Bank,false,s.End,recB k v⟩]) (e:=0) (c:=f') (n:=F'+1+1)
      have h3:=h1.trans h2
      rw [← hF'] at h3
      have h6:iter (fun q:T_Flash×Int=>flash_Put_l1 F ([⟨s.Bank,false,s.End,recB k v⟩],0) q.1 q.2) F (f,0)=some f':=h3
      rw [h6,Option.bind_some]
      unfold flash_Put_j1
      rw [mount_of a2 a3 hF hFF,Option.bind_some]
      exact⟨t,0,rfl,rfl,.inl ⟨rfl,f',m1c,q1,q2,a2,a3,a5 rfl,.cons a1 (.nil _),p4c⟩⟩
    | new _ hr hc=>
      rw [hmt.fl,hl1] at hr
      rw [if_neg (by simp [len]),hmt.fl]
      have hc0:=hmt.c0
      have hob:1 - s.Bank=0∨1 - s.Bank=1:=by omega
      have hhl:=headB_len (s.Count+1)
      have hrby:=recs_byte m q1.ok
      have hhby:∀x∈headB (s.Count+1),Byte x:=seal_byte (head_in _)
      generalize hW : [(⟨1 - s.Bank,true,0,[]⟩:T_Write),⟨1 - s.Bank,false,10,recs m⟩,⟨1 - s.Bank,false,0,headB (s.Count+1)⟩]=W at *
      have hw0:W[0]? = some ⟨1 - s.Bank,true,0,[]⟩:=by rw [← hW]; rfl
      have hw1:W[1]? = some ⟨1 - s.Bank,false,10,recs m⟩:=by rw [← hW]; rfl
      have hw2:W[2]? = some ⟨1 - s.Bank,false,0,headB (s.Count+1)⟩:=by rw [← hW]; rfl
      have hwl:W.length=3:=by rw [← hW]; rfl
      have hrl:=hm.rl (1 - s.Bank)
      have e1:=eff_erase F hm (1 - s.Bank) (-1) hob N (eff_all _) (Nat.le_refl _) hF
      rw [List.drop_eq_nil_of_le (by omega),List.append_nil] at e1
      have hm1:=hm.w (1 - s.Bank) (b:=List.replicate N 255) (by simp) (rep_byte _)
      have e2:=eff_write F hm1 (1 - s.Bank) (-1) 10 (recs m) hob (recs m).length (List.replicate 10 255) (List.replicate (N - 10 - (recs m).length) 255) (eff_all _) (Nat.le_refl _) (by simp) hrby (by
        rw [rB_wB,List.replicate_append_replicate,List.replicate_append_replicate]
        congr 1
        omega) hF
      rw [wB_wB,List.take_length] at e2
      have hm2:=hm.w (1 - s.Bank) (b:=List.replicate 10 255++(recs m++List.replicate (N - 10 - (recs m).length) 255)) (by simp; omega) (byte_app (rep_byte _) (byte_app hrby (rep_byte _)))
      have e3:=eff_write F hm2 (1 - s.Bank) (-1) 0 (headB (s.Count+1)) hob 10 [] (recs m++List.replicate (N - 10 - (recs m).length) 255) (by rw [hhl]; exact eff_all _) (by omega) rfl hhby (by rw [rB_wB,List.nil_append]) hF
      rw [wB_wB,List.nil_append,List.take_of_length_le (by omega)] at e3
      have hm3:=hm.w (1 - s.Bank) (b:=headB (s.Count+1)++(recs m++List.replicate (N - 10 - (recs m).length) 255)) (by simp [hhl]; omega) (byte_app hhby (byte_app hrby (rep_byte _)))
      have h1:=put_next (F:=F) (ws:=W) (e:=0) (c:=f) (i:=0) (n:=F'+1+1+1) hw0 e1 (by omega)
      have h2:=put_next (F:=F) (ws:=W) (e:=0) (i:=1) (n:=F'+1+1) hw1 e2 (by omega)
      have h3:=put_next (F:=F) (ws:=W) (e:=0) (i:=2) (n:=F'+1) hw2 e3 (by omega)
      have h4:=put_stop (F:=F) (ws:=W) (e:=0) (c:=wB f (1 - s.Bank) (headB (s.Count+1)++(recs m++List.replicate (N - 10 - (recs m).length) 255))) (n:=F')
      rw [hwl] at h4
      have h5:=h1.trans (h2.trans (h3.trans h4))
      rw [← hF'] at h5
      obtain⟨t,t1,t2⟩:=mnt_new hm h (act_new (F:=F) (s.Count+1) (by omega) (by omega) q1 (N - 10 - (recs m).length) (by omega) (by omega) hF hFF) hF hFF
      have h6:iter (fun q:T_Flash×Int=>flash_Put_l1 F (W,0) q.1 q.2) F (f,0)=some _:=h5
      rw [h6,Option.bind_some]
      unfold flash_Put_j1
      rw [mount_of hm3 t1 hF hFF,Option.bind_some]
      exact⟨t,0,rfl,rfl,.inl ⟨rfl,_,m1c,q1,q2,hm3,t1,t2,by rw [← hW]; exact .cons e1 (.cons e2 (.cons e3 (.nil _))),p4c⟩⟩
  · have hq:(e != 0)=true:=by simp [h0]
    rw [hq,Bool.true_or,if_pos rfl,kept_id F f s hmt (by omega) (by omega) hF,Option.bind_some]
    exact⟨s,e,rfl,rfl,.inr ⟨by omega,he4,rfl⟩⟩
end V
end Go.Proofs.YtbdhonofhlpdoaaDoor
