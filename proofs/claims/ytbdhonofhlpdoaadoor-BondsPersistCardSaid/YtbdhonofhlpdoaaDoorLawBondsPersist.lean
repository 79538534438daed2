/- BondsPersist. -/
import Derived.Test.YtbdhonofhlpdoaaDoorLawP
import Derived.Test.YtbdhonofhlpdoaaDoorOpen
namespace Go.Proofs.YtbdhonofhlpdoaaDoor
namespace V
theorem dec_u (F:Nat) (s:List Int) (hF:2000<F) (hb:∀x∈s,Byte x) (hl2:s.length≤4096):∃r,bonds_Decode F s=some r∧(r.2=0→VB r.1∧RB r.1):=by
  have hn:=len_nat s
  unfold bonds_Decode
  by_cases h1:s.length<45
  · rw [if_pos (by rw [decide_eq_true_eq]; omega),Option.bind_some,if_pos rfl]
    exact⟨_,rfl,fun h=>absurd h (by decide)⟩
  have h44:s[44]? = some s[44]:=List.getElem?_eq_getElem (by omega)
  have hb44:=hb _ (List.getElem_mem (show 44<s.length by omega))
  have n44:=take_one_num h44
  generalize s[44]=c at h44 hb44 n44
  obtain⟨b0,b1⟩:=hb44
  have e44:idx s 44=some c:=h44
  have ew:w64 (45+3 * c)=45+3 * c:=w64_id (by omega) (by omega)
  have ew3:w64 (3 * w64 c)=3 * c:=by rw [w64_id (x:=c) (by omega) (by omega),w64_id (x:=3 * c) (by omega) (by omega)]
  rw [if_neg (by rw [decide_eq_true_eq]; omega),e44]
  simp only [Option.bind_some,ew,ew3]
  by_cases h2:(s.length:Int)<45+3 * c
  · rw [if_pos (by rw [decide_eq_true_eq]; omega)]
    exact⟨_,rfl,fun h=>absurd h (by decide)⟩
  rw [if_neg (by rw [decide_eq_true_eq]; omega)]
  have h00:s[0]? = some s[0]:=List.getElem?_eq_getElem (by omega)
  generalize s[0]=x0 at h00
  have hsub7:=sub_nat s 7 s.length (by omega) (by omega)
  rw [List.take_length] at hsub7
  have ht:=take_ok F (s.drop 7) [8,8,8,1,8,4,1] (by simp) (by simp) (by simp; omega) (fun x hx=>hb x (List.mem_of_mem_drop hx)) (by rw [List.length_drop]; omega) (by simp [sumN]; omega)
  rw [show sizesI [8,8,8,1,8,4,1]=[8,8,8,1,8,4,1] from rfl] at ht
  have hs7:sub s 7 (len s)=some (s.drop 7):=hsub7
  have h31:s[31]? = some s[31]:=List.getElem?_eq_getElem (by omega)
  have n31:=take_one_num h31
  generalize s[31]=d at h31 n31
  have hvals:∀(a0 a1 a2 a3 a4 a5 a6:Int),idx [a0,a1,a2,a3,a4,a5,a6] 3=some a3:=fun _ _ _ _ _ _ _=>rfl
  have hd45:len (s.drop (7+(8+(8+(8+(1+(8+(4+(1+0)))))))))=s.length - 45:=by rw [len_nat,List.length_drop]; omega
  rw [decA_u F s x0 hF hb (by omega) (by omega) h00,hs7]
  simp only [Option.bind_some,ht,valsT,sumN,List.drop_drop,hvals,hd45,show 7+8+8+8=31 from rfl,n31]
  by_cases h3:(s.length:Int) > 45+3 * c
  · rw [if_pos (show decide ((s.length:Int) - 45 > 3 * c)=true by rw [decide_eq_true_eq]; omega)]
    exact⟨_,rfl,fun h=>absurd h (by decide)⟩
  rw [if_neg (show ¬ decide ((s.length:Int) - 45 > 3 * c)=true by rw [decide_eq_true_eq]; omega)]
  simp only [Option.bind_some]
  by_cases h4:d > 3
  · rw [if_pos (show decide (d > 3)=true by simpa using h4)]
    exact⟨_,rfl,fun h=>absurd h (by decide)⟩
  rw [if_neg (show ¬ decide (d > 3)=true by simpa using h4)]
  by_cases h5:chkA (decA s x0)=0
  · rw [if_pos h5,if_neg (by simp)]
    have i0:∀(a0 a1 a2 a3 a4 a5 a6:Int),idx [a0,a1,a2,a3,a4,a5,a6] 0=some a0:=fun _ _ _ _ _ _ _=>rfl
    have i1:∀(a0 a1 a2 a3 a4 a5 a6:Int),idx [a0,a1,a2,a3,a4,a5,a6] 1=some a1:=fun _ _ _ _ _ _ _=>rfl
    have i2:∀(a0 a1 a2 a3 a4 a5 a6:Int),idx [a0,a1,a2,a3,a4,a5,a6] 2=some a2:=fun _ _ _ _ _ _ _=>rfl
    have i4:∀(a0 a1 a2 a3 a4 a5 a6:Int),idx [a0,a1,a2,a3,a4,a5,a6] 4=some a4:=fun _ _ _ _ _ _ _=>rfl
    have i5:∀(a0 a1 a2 a3 a4 a5 a6:Int),idx [a0,a1,a2,a3,a4,a5,a6] 5=some a5:=fun _ _ _ _ _ _ _=>rfl
    have i6:∀(a0 a1 a2 a3 a4 a5 a6:Int),idx [a0,a1,a2,a3,a4,a5,a6] 6=some a6:=fun _ _ _ _ _ _ _=>rfl
    simp only [i0,i1,i2,i4,i5,Option.bind_some,Nat.reduceAdd]
    unfold bonds_Decode_j1
    simp only [i6,Option.bind_some,n44]
    obtain⟨cn,rfl⟩:=Int.eq_ofNat_of_zero_le b0
    rw [loop_u F s cn hF (by omega) hb (by omega),Option.bind_some]
    unfold bonds_Decode_j2
    generalize hB:T_Bond.mk (T_Identity.mk (decA s x0) (num (List.take 8 (List.drop 7 s)))) (num (List.take 8 (List.drop 15 s))) (num (List.take 8 (List.drop 23 s))) (remp d 2 == 1) (num (List.take 8 (List.drop 32 s))) (decide (d > 1)) (subsOf s cn) (w64 (num (List.take 4 (List.drop 40 s))))=B
    have hBr:RB B:=by
      rw [← hB]
      refine ⟨bytes_u64 hb 1 6 (by omega),bytes_u64 hb 7 8 (by omega),bytes_u64 hb 15 8 (by omega),bytes_u64 hb 23 8 (by omega),bytes_u64 hb 32 8 (by omega),fun x hx=>?_⟩
      obtain⟨i,_,rfl⟩:=List.mem_map.1 hx
      unfold subAt wu16
      simp only
      omega
    rw [check_same F B hBr.bits]
    obtain⟨e,k1,k2⟩:=check_ok F B hF hBr.bits
    rw [k1,Option.bind_some]
    by_cases h6:e=0
    · rw [if_neg (by simpa using h6)]
      exact⟨_,rfl,fun _=>⟨k2.1 h6,hBr⟩⟩
    · rw [if_pos (by simpa using h6)]
      exact⟨_,rfl,fun h=>absurd h h6⟩
  · rw [if_neg h5,if_pos (by simpa using h5)]
    exact⟨_,rfl,fun h=>absurd h h5⟩
theorem ld_wl (F:Nat) (vs:Nat→List Int) (hF:2000<F) (hb:∀k,k<16→∀x∈vs k,Byte x) (hl:∀k,k<16→(vs k).length≤4096):Wfl (ld F vs 16):=by
  have key:∀b∈ld F vs 16,VB b∧RB b:=fun b h=>by
    obtain⟨j,hj⟩:=List.getElem?_of_mem h
    obtain⟨k,_,k16,h1,_⟩:=ld_at 16 j b hj
    obtain⟨⟨r,e⟩,r1,r2⟩:=dec_u F (vs k) hF (hb k k16) (hl k k16)
    unfold decO at h1
    rw [r1,Option.bind_some] at h1
    by_cases he:e=0
    · rw [if_pos he] at h1
      rw [← Option.some.inj h1]
      exact r2 he
    · rw [if_neg he] at h1
      cases h1
  exact⟨ld_len ..,fun b h=>(key b h).1,fun b h=>(key b h).2,ld_dis F vs 16⟩
theorem key_val (F:Nat) (l:List T_Bond) (a:T_Address) (k:Int) (hF:2000<F) (hl:l.length≤1000) (hd:Dis l):∃p v,wirelesslaw40_key F l a k=some (p,v)∧(p=true↔∃x∈l,x.Peer.Address=a)∧∀x∈l,x.Peer.Address=a→v=(x.LTK == k):=by
  have hia:∀x:T_Bond,((x.Peer.Address.Kind == a.Kind)&&(x.Peer.Address.Bits == a.Bits))=true↔x.Peer.Address=a:=fun x=>sameA_iff (c:={ x with Peer:={ x.Peer with Address:=a } })
  have h:=iter_find (body:=fun s=>wirelesslaw40_key_l1 F l a k s) (l:=l) (p:=fun x=>(x.Peer.Address.Kind == a.Kind)&&(x.Peer.Address.Bits == a.Bits)) (o:=fun i=>.inr (true,match l[i]? with | some x=>x.LTK == k | none=>false)) (e:=.inl ()) (fun i x hx=>by
    have hi:=(List.getElem?_eq_some_iff.1 hx).1
    show wirelesslaw40_key_l1 F l a k _=_
    unfold wirelesslaw40_key_l1 wirelesslaw40_key_j2 wirelesslaw40_key_j3
    rw [if_pos (by simp [len]; omega),idx_nat,hx,Option.bind_some,Option.bind_some,w64_nat i (by omega)]
    split <;> rfl) (by
    show wirelesslaw40_key_l1 F l a k _=_
    unfold wirelesslaw40_key_l1
    rw [if_neg (by simp [len])]) F 0 (by omega) (by omega)
  rw [List.drop_zero,show ((0:Nat):Int)=0 from rfl] at h
  unfold wirelesslaw40_key
  rw [h,Option.bind_some]
  cases hf:l.findIdx? (fun x=>(x.Peer.Address.Kind == a.Kind)&&(x.Peer.Address.Bits == a.Bits)) with
  | none=>
    have hno:=List.findIdx?_eq_none_iff.1 hf
    exact⟨false,false,rfl,⟨(fun h=>by cases h),(fun ⟨x,hx,he⟩=>absurd ((hia x).2 he) (by rw [hno x hx]; decide))⟩,(fun x hx he=>absurd ((hia x).2 he) (by rw [hno x hx]; decide))⟩
  | some i=>
    obtain⟨hi,h1,_⟩:=List.findIdx?_eq_some_iff_getElem.1 hf
    have hx:=List.getElem?_eq_getElem hi
    have ha:=(hia _).1 h1
    simp only [Nat.zero_add]
    rw [hx]
    refine ⟨true,l[i].LTK == k,rfl,⟨fun _=>⟨l[i],List.getElem_mem hi,ha⟩,fun _=>rfl⟩,fun x hxm he=>?_⟩
    obtain⟨j,hj⟩:=List.getElem?_of_mem hxm
    have:j=i:=dis_inj hd hj hx (he.trans ha.symm)
    subst this
    rw [hx] at hj
    rw [Option.some.inj hj]
theorem kept_ok (F:Nat) (was now got:List T_Bond) (hF:2000<F) (h1:Wfl was) (h2:Wfl now) (h3:Wfl got) (h:Btw was now got):wirelesslaw40_kept F was now got=some true:=by
  have l1:=h1.len
  have l2:=h2.len
  have l3:=h3.len
  unfold wirelesslaw40_kept
  have a:=iter_count (body:=fun s:Int=>wirelesslaw40_kept_l2 F was now got s) (fun i=>(i:Int)) got.length (.inl ()) (fun i hi=>by
    have hx:got[i]? = some got[i]:=List.getElem?_eq_getElem hi
    have hm:=List.getElem_mem hi
    show wirelesslaw40_kept_l2 F was now got (i:Int)=_
    generalize got[i]=b at hx hm
    obtain⟨p1,v1,k1,i1,j1⟩:=key_val F was b.Peer.Address b.LTK hF (by omega) h1.dis
    obtain⟨p2,v2,k2,i2,j2⟩:=key_val F now b.Peer.Address b.LTK hF (by omega) h2.dis
    unfold wirelesslaw40_kept_l2 wirelesslaw40_kept_j3 wirelesslaw40_kept_j4
    rw [if_pos (dt (by rw [len_nat]; omega)),idx_nat,hx,Option.bind_some,Option.bind_some,k1,Option.bind_some,Option.bind_some,Option.bind_some,k2,Option.bind_some]
    simp only
    have hc:¬ (((!p1)&&(!p2))||(((p1&&p2)&&(!v1))&&(!v2)))=true:=fun hcon=>by
      by_cases w1:p1=true
      · by_cases w2:p2=true
        · rcases h.k b hm (i1.1 w1) (i2.1 w2) with ⟨x,hx,ha,hk⟩ | ⟨y,hy,ha,hk⟩
          · have:=j1 x hx ha
            rw [hk] at this
            simp [w1,w2,this] at hcon
          · have:=j2 y hy ha
            rw [hk] at this
            simp [w1,w2,this] at hcon
        · simp [w1,w2] at hcon
      · by_cases w2:p2=true
        · simp [w1,w2] at hcon
        · rcases h.a b hm with q | q
          · exact w1 (i1.2 q)
          · exact w2 (i2.2 q)
    rw [if_neg hc,w64_nat i (by omega)]) (by
    show wirelesslaw40_kept_l2 F was now got _=_
    unfold wirelesslaw40_kept_l2
    rw [if_neg (df (by rw [len_nat]; omega))]) F 0 (by omega) (by omega)
  rw [show ((0:Nat):Int)=0 from rfl] at a
  rw [a,Option.bind_some]
  unfold wirelesslaw40_kept_j1
  have c:=iter_count (body:=fun s:Int=>wirelesslaw40_kept_l1 F was now got s) (fun i=>(i:Int)) was.length (.inl ()) (fun i hi=>by
    have hx:was[i]? = some was[i]:=List.getElem?_eq_getElem hi
    have hm:=List.getElem_mem hi
    show wirelesslaw40_kept_l1 F was now got (i:Int)=_
    generalize was[i]=b at hx hm
    obtain⟨p1,v1,k1,i1,j1⟩:=key_val F now b.Peer.Address 0 hF (by omega) h2.dis
    obtain⟨p2,v2,k2,i2,j2⟩:=key_val F got b.Peer.Address 0 hF (by omega) h3.dis
    unfold wirelesslaw40_kept_l1
    rw [if_pos (dt (by rw [len_nat]; omega)),idx_nat,hx,Option.bind_some,k1,Option.bind_some,k2,Option.bind_some]
    simp only
    have hc:¬ (p1&&(!p2))=true:=fun hcon=>by
      by_cases w1:p1=true
      · have:=i2.2 (h.s b hm (i1.1 w1))
        simp [this] at hcon
      · simp [w1] at hcon
    rw [if_neg hc,w64_nat i (by omega)]) (by
    show wirelesslaw40_kept_l1 F was now got _=_
    unfold wirelesslaw40_kept_l1
    rw [if_neg (df (by rw [len_nat]; omega))]) F 0 (by omega) (by omega)
  rw [show ((0:Nat):Int)=0 from rfl] at c
  rw [c]
  rfl
theorem eff_ge {n all:Int} (h0:0≤all) (h:all≤n):eff n all=eff (-1) all:=by
  unfold eff
  rw [if_pos (show (-1:Int)<0∨-1 > all by omega)]
  split <;> omega
def sz (w:T_Write) (N:Int):Int:=if w.Erase=true then N else w.Bytes.length
def szs:List T_Write→Int→Int
  | [],_=>0
  | w::l,N=>sz w N+szs l N
theorem szs_snoc:∀(l:List T_Write) (w:T_Write) (N:Int),szs (l++[w]) N=szs l N+sz w N
  | [],w,N=>by simp [szs]
  | x::l,w,N=>by
    rw [List.cons_append,szs,szs,szs_snoc l w N]
    omega
theorem szs_le (N:Nat) (hN:N≤65536):∀(l:List T_Write),(∀w∈l,w.Bytes.length≤65536)→0≤szs l N∧szs l N≤65536 * l.length
  | [],_=>by simp [szs]
  | w::l,h=>by
    have h1:=h w (by simp)
    have h2:=szs_le N hN l fun x hx=>h x (by simp [hx])
    rw [szs,List.length_cons]
    unfold sz
    split <;> omega
theorem size_eq (F:Nat) (l:List T_Write) (N:Nat) (hN:N≤65536) (hw:∀w∈l,w.Bytes.length≤65536) (hl:l.length≤100) (hF:200000<F):wirelessref39_Size F l N=some (szs l N):=by
  unfold wirelessref39_Size
  have:=iter_count (body:=fun s:Int×Int=>wirelessref39_Size_l1 F l N s.1 s.2) (fun i=>(szs (l.take i) N,(i:Int))) l.length (szs l N) (by
    intro i hi
    have hx:l[i]? = some l[i]:=List.getElem?_eq_getElem hi
    have hwb:=hw _ (List.getElem_mem hi)
    have hb:=szs_le N hN (l.take i) fun w hm=>hw w (List.mem_of_mem_take hm)
    have htl:(l.take i).length≤i:=by simp; omega
    rw [List.take_add_one,hx,Option.toList_some,szs_snoc]
    generalize l[i]=w at *
    generalize szs (l.take i) N=q at *
    show wirelessref39_Size_l1 F l N q (i:Int)=_
    unfold wirelessref39_Size_l1 wirelessref39_Size_j2
    rw [if_pos (dt (by rw [len_nat]; omega)),idx_nat,hx,Option.bind_some,Option.bind_some,w64_nat i (by omega),len_nat,w64_id (x:=q+(N:Int)) (by omega) (by omega),w64_id (x:=q+(w.Bytes.length:Int)) (by omega) (by omega)]
    unfold sz
    cases w.Erase
    · rw [if_neg (by decide),if_neg (by decide)]
    · rw [if_pos rfl,if_pos rfl]) (by
    show wirelessref39_Size_l1 F l N _ _=_
    unfold wirelessref39_Size_l1
    rw [if_neg (df (by rw [len_nat]; omega)),List.take_length]) F 0 (by omega) (by omega)
  rw [List.take_zero] at this
  rw [show (szs [] (N:Int),((0:Nat):Int))=((0:Int),(0:Int)) from rfl] at this
  rw [this]
  rfl
section
variable {F N:Nat} {ws:List T_Write} {c c':T_Flash} {i n:Nat} {left:Int}
theorem lp_stop (h:¬ (i<ws.length∧0<left)):iter (fun s:T_Flash×Int×Int=>wirelesslaw40_BondsPersist_l2 F N ws s.1 s.2.1 s.2.2) (n+1) (c,(i:Int),left)=some c:=by
  refine iter_stop ?_
  show wirelesslaw40_BondsPersist_l2 F N ws c (i:Int) left=_
  unfold wirelesslaw40_BondsPersist_l2
  rw [if_neg (by rw [len_nat]; simp; omega)]
theorem lp_next {w:T_Write} (hx:ws[i]? = some w) (h0:0<left) (h1:left≤100000000) (ha:flash_Apply F c w left=some c') (hN:N≤65536) (hw:w.Bytes.length≤65536) (hi:i≤100) (hF:200000<F):iter (fun s:T_Flash×Int×Int=>wirelesslaw40_BondsPersist_l2 F N ws s.1 s.2.1 s.2.2) (n+1) (c,(i:Int),left)=iter (fun s:T_Flash×Int×Int=>wirelesslaw40_BondsPersist_l2 F N ws s.1 s.2.1 s.2.2) n (c',((i+1:Nat):Int),left - sz w N):=by
  have hin:i<ws.length:=(List.getElem?_eq_some_iff.1 hx).1
  refine iter_step ?_
  show wirelesslaw40_BondsPersist_l2 F N ws c (i:Int) left=_
  unfold wirelesslaw40_BondsPersist_l2 wirelesslaw40_BondsPersist_j7
  have hs:sub ws (i:Int) ((i+1:Nat):Int)=some [w]:=by
    rw [sub_nat ws i (i+1) (by omega) (by omega),List.take_add_one,hx,Option.toList_some]
    have:(ws.take i).length=i:=by rw [List.length_take]; omega
    have h2:=List.drop_left (l₁:=ws.take i) (l₂:=[w])
    rw [this] at h2
    rw [h2]
  have hz:szs [w] N=sz w N:=by rw [szs,szs]; omega
  have hzb:0≤sz w N∧sz w N≤65536:=by unfold sz; split <;> omega
  rw [if_pos (by rw [len_nat]; simp; omega),idx_nat,hx,Option.bind_some,ha,Option.bind_some,w64_nat i (by omega),hs,Option.bind_some,size_eq F [w] N hN (fun y hy=>by rw [List.mem_singleton.1 hy]; exact hw) (by simp) hF,Option.bind_some,hz,w64_id (x:=left - sz w N) (by omega) (by omega)]
end
theorem cut_key {F N:Nat} {W:List T_Write} {p n:Nat} (hp100:p+3≤99) {f:T_Flash} {s:T_Store} (hm:Mmy f N) (h:Mnt F f s) {k:Int} (k0:0≤k) (k1:k<65536) {v:List Int} (vb:∀x∈v,Byte x) {m:List T_Item} {ws:List T_Write} (hWs:∀(q:Nat) (w:T_Write),ws[q]? = some w→W[p+q]? = some w) (hp:PlanOk s k v m ws 0) (hs:flash_set F s.Items ⟨k,v⟩=some m) (hml:Lst m) (hmn:m.length≤s.Items.length+1) (j:Int) (j0:0≤j) (j1:j≤szs ws N) (hF:200000<F) (hFF:F≤FF) :
    ∃f' t,iter (fun s:T_Flash×Int×Int=>wirelesslaw40_BondsPersist_l2 F N W s.1 s.2.1 s.2.2) (n+1+1+1+1) (f,(p:Int),j)=some f'∧Mmy f' N∧Mnt F f' t∧(t.Items=s.Items∨t.Items=m)∧(j=szs ws N→t.Items=m):=by
  have hmt:=mnt_mtd hm h
  have hbk:=hmt.bk
  have hil:=hmt.il
  have hmn0:=hm.n0
  have hmn1:=hm.n1
  have hl1:=hm.l1
  cases hp with
  | same hsm hv=>
    rw [setI_same hmt.it hsm (by omega) hF] at hs
    have hs:=Option.some.inj hs
    refine ⟨f,s,?_,hm,h,.inl rfl,fun _=>hs⟩
    rw [szs] at j1
    exact lp_stop (by omega)
  | app hv hr=>
    rw [hmt.fl,hl1] at hr
    have hrl:=recB_len k v
    have hsz:szs [⟨s.Bank,false,s.End,recB k v⟩] N=((recB k v).length:Int):=by
      rw [szs,szs,sz,if_neg (show ¬ (false=true) by decide)]
      show ((recB k v).length:Int)+0=_
      omega
    rw [hsz] at j1 ⊢
    by_cases hj:j=0
    · subst hj
      refine ⟨f,s,?_,hm,h,.inl rfl,fun hq=>by omega⟩
      exact lp_stop (by omega)
    · obtain⟨f',t,a1,a2,a3,a4,a5⟩:=app_end hm h k0 k1 vb hv hr hs hml hmn j j.toNat (by rw [eff_min j0]; omega) (by omega) hF hFF
      refine ⟨f',t,?_,a2,a3,?_,fun hq=>a5 (by omega)⟩
      · have h1:=lp_next (F:=F) (N:=N) (ws:=W) (i:=p) (n:=n+1+1+1) (hWs 0 _ rfl) (by omega) (by omega) a1 hmn1 (by simp only; omega) (by omega) hF
        have z1:sz ⟨s.Bank,false,s.End,recB k v⟩ N=((recB k v).length:Int):=by rw [sz,if_neg (show ¬ (false=true) by decide)]
        rw [z1] at h1
        exact h1.trans (lp_stop (by omega))
      · by_cases hq:j.toNat<(recB k v).length
        · exact .inl (a4 hq)
        · exact .inr (a5 (by omega))
  | new hv hr hc=>
    rw [hmt.fl,hl1] at hr
    have hc0:=hmt.c0
    have hob:1 - s.Bank=0∨1 - s.Bank=1:=by omega
    have hhl:=headB_len (s.Count+1)
    have hrby:=recs_byte m hml.ok
    have hhby:∀x∈headB (s.Count+1),Byte x:=seal_byte (head_in _)
    generalize hW : [(⟨1 - s.Bank,true,0,[]⟩:T_Write),⟨1 - s.Bank,false,10,recs m⟩,⟨1 - s.Bank,false,0,headB (s.Count+1)⟩]=V0 at *
    have hw0:=hWs 0 ⟨1 - s.Bank,true,0,[]⟩ (by rw [← hW]; rfl)
    have hw1:=hWs 1 ⟨1 - s.Bank,false,10,recs m⟩ (by rw [← hW]; rfl)
    have hw2:=hWs 2 ⟨1 - s.Bank,false,0,headB (s.Count+1)⟩ (by rw [← hW]; rfl)
    have hsz:szs V0 N=N+(recs m).length+10:=by
      rw [← hW,szs,szs,szs,szs,sz,sz,sz,if_pos rfl,if_neg (show ¬ (false=true) by decide),if_neg (show ¬ (false=true) by decide),hhl]
      show (N:Int)+(((recs m).length:Int)+(((10:Nat):Int)+0))=_
      omega
    rw [hsz] at j1 ⊢
    by_cases hj:j=0
    · subst hj
      refine ⟨f,s,?_,hm,h,.inl rfl,fun hq=>by omega⟩
      exact lp_stop (by omega)
    ·
      have hrl:=hm.rl (1 - s.Bank)
      have e1:=eff_erase F hm (1 - s.Bank) j hob (min j.toNat N) (eff_min j0) (Nat.min_le_right ..) hF
      have hl1:(List.replicate (min j.toNat N) 255++(rB f (1 - s.Bank)).drop (min j.toNat N)).length=N:=by
        rw [List.length_append,List.length_replicate,List.length_drop]
        omega
      have hm1:=hm.w (1 - s.Bank) hl1 (byte_app (rep_byte _) fun x hx=>hm.rb _ x (List.mem_of_mem_drop hx))
      have s1:=lp_next (F:=F) (N:=N) (ws:=W) (i:=p) (n:=n+1+1+1) hw0 (by omega) (by omega) e1 hmn1 (by simp) (by omega) hF
      have z1:sz ⟨1 - s.Bank,true,0,[]⟩ N=N:=by rw [sz,if_pos rfl]
      rw [z1] at s1
      obtain⟨t,t1,t2⟩:=mnt_keep hm h (nohead_rep (k:=min j.toNat N) (by omega) ((rB f (1 - s.Bank)).drop (min j.toNat N))) hl1
      by_cases hj1:j≤N
      · refine ⟨_,t,?_,hm1,t1,.inl t2,fun hq=>by omega⟩
        exact s1.trans (lp_stop (by omega))
      · have hb1:List.replicate (min j.toNat N) 255++(rB f (1 - s.Bank)).drop (min j.toNat N)=List.replicate N 255:=by
          rw [show min j.toNat N=N from by omega,List.drop_eq_nil_of_le (by omega),List.append_nil]
        rw [hb1] at s1 hm1
        clear e1 hl1 z1 t1 t2 hb1
        have e2:=eff_write F hm1 (1 - s.Bank) (j - N) 10 (recs m) hob (min (j - N).toNat (recs m).length) (List.replicate 10 255) (List.replicate (N - 10 - min (j - N).toNat (recs m).length) 255) (eff_min (by omega)) (Nat.min_le_right ..) (by simp) hrby (by
          rw [rB_wB,List.replicate_append_replicate,List.replicate_append_replicate]
          congr 1
          omega) hF
        rw [wB_wB] at e2
        have s2:=lp_next (F:=F) (N:=N) (ws:=W) (i:=p+1) (n:=n+1+1) hw1 (by omega) (by omega) e2 hmn1 (by simp only; omega) (by omega) hF
        rw [s2] at s1
        clear s2
        have z2:sz ⟨1 - s.Bank,false,10,recs m⟩ N=(recs m).length:=by rw [sz,if_neg (show ¬ (false=true) by decide)]
        rw [z2] at s1
        have hl2:(List.replicate 10 255++((recs m).take (min (j - N).toNat (recs m).length)++List.replicate (N - 10 - min (j - N).toNat (recs m).length) 255)).length=N:=by
          simp only [List.length_append,List.length_replicate,List.length_take]
          omega
        have hby2:∀x∈List.replicate 10 255++((recs m).take (min (j - N).toNat (recs m).length)++List.replicate (N - 10 - min (j - N).toNat (recs m).length) 255),Byte x:=byte_app (rep_byte _) (byte_app (fun x hx=>hrby x (List.mem_of_mem_take hx)) (rep_byte _))
        have hm2:=hm.w (1 - s.Bank) hl2 hby2
        obtain⟨t,t1,t2⟩:=mnt_keep hm h (nohead_rep (k:=10) (by omega) ((recs m).take (min (j - N).toNat (recs m).length)++List.replicate (N - 10 - min (j - N).toNat (recs m).length) 255)) hl2
        by_cases hj2:j - N≤(recs m).length
        · refine ⟨_,t,?_,hm2,t1,.inl t2,fun hq=>by omega⟩
          exact s1.trans (lp_stop (by omega))
        · have hk2:min (j - N).toNat (recs m).length=(recs m).length:=by omega
          rw [hk2,List.take_length] at s1 hm2
          clear e2 hl2 hby2 t1 t2 z2
          obtain⟨i,hi⟩:∃i:Nat,j - N - (recs m).length=(i:Int):=⟨(j - N - (recs m).length).toNat,by omega⟩
          rw [hi] at s1
          have e3:=eff_write F hm2 (1 - s.Bank) i 0 (headB (s.Count+1)) hob i [] (List.replicate (10 - i) 255++(recs m++List.replicate (N - 10 - (recs m).length) 255)) (by rw [eff_min (by omega)]; omega) (by omega) rfl hhby (by
            rw [rB_wB,List.nil_append,← List.append_assoc (List.replicate i 255),List.replicate_append_replicate,show i+(10 - i)=10 from by omega]) hF
          rw [wB_wB,List.nil_append] at e3
          have s3:=lp_next (F:=F) (N:=N) (ws:=W) (i:=p+2) (n:=n+1) hw2 (by omega) (by omega) e3 hmn1 (by simp only; omega) (by omega) hF
          have z3:sz ⟨1 - s.Bank,false,0,headB (s.Count+1)⟩ N=10:=by
            rw [sz,if_neg (show ¬ (false=true) by decide),hhl]
            rfl
          rw [s3] at s1
          have s1:=s1.trans (lp_stop (by omega))
          have hl3:((headB (s.Count+1)).take i++(List.replicate (10 - i) 255++(recs m++List.replicate (N - 10 - (recs m).length) 255))).length=N:=by
            simp only [List.length_append,List.length_replicate,List.length_take]
            omega
          have hm3:=hm.w (1 - s.Bank) hl3 (byte_app (fun x hx=>hhby x (List.mem_of_mem_take hx)) (byte_app (rep_byte _) (byte_app hrby (rep_byte _))))
          by_cases hi10:i=10
          · subst hi10
            rw [Nat.sub_self,List.replicate_zero,List.nil_append,List.take_of_length_le (by omega)] at s1 hm3
            obtain⟨t,t1,t2⟩:=mnt_new hm h (act_new (F:=F) (s.Count+1) (by omega) (by omega) hml (N - 10 - (recs m).length) (by omega) (by omega) hF hFF) hF hFF
            exact⟨_,t,s1,hm3,t1,.inr t2,fun _=>t2⟩
          · obtain⟨t,t1,t2⟩:=mnt_keep hm h (b:=(headB (s.Count+1)).take i++(List.replicate (10 - i) 255++(recs m++List.replicate (N - 10 - (recs m).length) 255))) (fun n=>nohead9 (by
              rw [List.getElem?_append_right (by rw [List.length_take]; omega),List.getElem?_append_left (by rw [List.length_take,List.length_replicate]; omega),List.getElem?_replicate,if_pos (by rw [List.length_take]; omega)]) n) hl3
            exact⟨_,t,s1,hm3,t1,.inl t2,fun hq=>by omega⟩
theorem apply_all {F:Nat} {f:T_Flash} {N:Nat} (hm:Mmy f N) (w:T_Write) (n:Int) (h:sz w N≤n) (hF:200000<F):flash_Apply F f w n=flash_Apply F f w (-1):=by
  have hl1:=hm.l1
  have hl2:=hm.l2
  have hn1:=hm.n1
  unfold sz at h
  unfold flash_Apply
  rw [copied_id F f (by omega) (by omega) (by omega)]
  simp only [Option.bind_some]
  cases he:w.Erase
  · rw [he,if_neg (by decide)] at h
    simp only [if_neg (show ¬ (false=true) by decide),j1_eff,j5_eff,len_nat,eff_ge (n:=n) (all:=(w.Bytes.length:Int)) (by omega) h]
  · rw [he,if_pos rfl] at h
    simp only [if_true,j1_eff,j5_eff,len_nat,hl1,hl2,eff_ge (n:=n) (all:=(N:Int)) (by omega) h]
theorem szs_app:∀(a b:List T_Write) (N:Int),szs (a++b) N=szs a N+szs b N
  | [],b,N=>by rw [List.nil_append,szs]; omega
  | w::a,b,N=>by
    rw [List.cons_append,szs,szs,szs_app a b N]
    omega
theorem apl_mmy {F:Nat} {f g:T_Flash} {N:Nat} {w:T_Write} (hm:Mmy f N) (hw:OkW w) (h:flash_Apply F f w (-1)=some g) (hF:200000<F):Mmy g N:=by
  have hl1:=hm.l1
  have hl2:=hm.l2
  have hn1:=hm.n1
  obtain⟨o,a1,a2,a3,a4,a5,a6⟩:=apply_same F f w (-1) (by omega) (by omega) hw.b hw.o hF
  rw [h] at a1
  obtain rfl:=Option.some.inj a1
  exact⟨by omega,by omega,hm.n0,hm.n1,a5 hm.b1,a6 hm.b2⟩
theorem cut_skip {F N:Nat} {W:List T_Write} (hN:N≤65536) (hF:200000<F):∀(ws:List T_Write) (f g:T_Flash) (p n:Nat) (left:Int),Apl F f ws g→Mmy f N→(∀w∈ws,OkW w)→(∀(q:Nat) (w:T_Write),ws[q]? = some w→W[p+q]? = some w)→p+ws.length≤100→szs ws N<left→left≤100000000→
    iter (fun s:T_Flash×Int×Int=>wirelesslaw40_BondsPersist_l2 F N W s.1 s.2.1 s.2.2) (n+ws.length) (f,(p:Int),left)=iter (fun s:T_Flash×Int×Int=>wirelesslaw40_BondsPersist_l2 F N W s.1 s.2.1 s.2.2) n (g,((p+ws.length:Nat):Int),left - szs ws N)
  | [],f,g,p,n,left,h,_,_,_,_,_,_=>by
    cases h
    rw [szs,Int.sub_zero]
    rfl
  | w::ws,f,g,p,n,left,h,hm,hok,hW,hp,hl,hl2=>by
    rw [szs] at hl
    rw [List.length_cons] at hp
    have hwk:=hok w (by simp)
    have hwb:=hwk.b
    have hzw:0≤sz w N:=by unfold sz; split <;> omega
    have hzs:=(szs_le N hN ws (fun x hx=>(hok x (by simp [hx])).b)).1
    cases h with
    | @cons _ c _ _ _ a t=>
      have ha:flash_Apply F f w left=some c:=by rw [apply_all hm w left (by omega) hF]; exact a
      have h1:=lp_next (F:=F) (N:=N) (ws:=W) (i:=p) (n:=n+ws.length) (by have:=hW 0 w rfl; simpa using this) (by omega) hl2 ha hN hwb (by omega) hF
      have ih:=cut_skip (W:=W) hN hF ws c g (p+1) n (left - sz w N) t (apl_mmy hm hwk a hF) (fun x hx=>hok x (by simp [hx])) (fun q x hq=>by
        have:=hW (q+1) x (by simpa using hq)
        rwa [show p+1+q=p+(q+1) by omega]) (by omega) (by omega) (by omega)
      rw [List.length_cons,szs,show n+(ws.length+1)=n+ws.length+1 by omega,h1,ih,show p+1+ws.length=p+(ws.length+1) by omega,show left - sz w N - szs ws N=left - (sz w N+szs ws N) by omega]
theorem Ch.okw {F N:Nat} {vs:Nat→List Int} {f0 f:T_Flash} {s0 s:T_Store} {i:Nat} {ws:List T_Write} (c:Ch F N vs f0 s0 i ws f s):(∀w∈ws,OkW w)∧ws.length≤3 * i:=by
  induction c with
  | zero=>exact⟨(fun w h=>by cases h),by simp⟩
  | @succ i ws w f g s t m c hm h hp hs hml hmn ha hg ht hi ih=>
    have hl1:=hm.l1
    have hn1:=hm.n1
    obtain⟨a1,a2,_,_⟩:=plan_ok f (mnt_mtd hm h) (by omega) hp
    have hw3:w.length≤3:=by cases hp <;> simp
    refine ⟨fun x hx=>?_,by rw [List.length_append]; omega⟩
    rcases List.mem_append.1 hx with hx | hx
    · exact ih.1 x hx
    · exact a1 x hx
theorem cut_chain {F N:Nat} {vs:Nat→List Int} {f0 f:T_Flash} {s0 s:T_Store} {i:Nat} {ws:List T_Write} (c:Ch F N vs f0 s0 i ws f s) (hi16:i≤16) (hvb:∀k,k<16→∀x∈vs k,Byte x) (W rest:List T_Write) (hW:W=ws++rest) (hm0:Mmy f0 N) (h0:Mnt F f0 s0) (j:Int) (j0:0≤j) (j1:j≤100000000) (n:Nat) (hF:200000<F) (hFF:F≤FF) :
    (j≤szs ws N→∃i' f' t,i'≤i∧iter (fun s:T_Flash×Int×Int=>wirelesslaw40_BondsPersist_l2 F N W s.1 s.2.1 s.2.2) (n+ws.length+4) (f0,0,j)=some f'∧Mmy f' N∧Mnt F f' t∧(∀q:Nat,fv t.Items q=if q<i' then vs q else fv s0.Items q)∧(j=szs ws N→∀q:Nat,fv t.Items q=if q<i then vs q else fv s0.Items q))∧
    (szs ws N<j→iter (fun s:T_Flash×Int×Int=>wirelesslaw40_BondsPersist_l2 F N W s.1 s.2.1 s.2.2) (n+ws.length+4) (f0,0,j)=iter (fun s:T_Flash×Int×Int=>wirelesslaw40_BondsPersist_l2 F N W s.1 s.2.1 s.2.2) (n+4) (f,(ws.length:Int),j - szs ws N)):=by
  induction c generalizing rest n with
  | zero=>
    rw [szs]
    refine ⟨fun h=>⟨0,f0,s0,Nat.le_refl _,?_,hm0,h0,fun q=>by rw [if_neg (by omega)],fun _ q=>by rw [if_neg (by omega)]⟩,fun h=>?_⟩
    · exact lp_stop (i:=0) (by omega)
    · rw [Int.sub_zero]
      rfl
  | @succ i ws w f g s t m c hm h hp hs hml hmn ha hg ht hi ih=>
    have hcf:=c.fv hF
    have hcf2:=(Ch.succ c hm h hp hs hml hmn ha hg ht hi).fv hF
    rw [hi] at hcf2
    have hok:=(Ch.succ c hm h hp hs hml hmn ha hg ht hi).okw
    have hlw:=c.okw.2
    have hl2:=hok.2
    rw [List.length_append] at hl2
    have hn1:=hm.n1
    have hl1:=hm.l1
    have hmt:=mnt_mtd hm h
    have hil:=hmt.il
    have hzw:=(szs_le N hn1 w (fun x hx=>(hok.1 x (by simp [hx])).b)).1
    have hzs:=(szs_le N hn1 ws (fun x hx=>(c.okw.1 x hx).b)).1
    have hWs:∀(q:Nat) (x:T_Write),w[q]? = some x→W[ws.length+q]? = some x:=fun q x hx=>by
      have hql:=(List.getElem?_eq_some_iff.1 hx).1
      rw [hW,List.append_assoc,List.getElem?_append_right (by omega),show ws.length+q - ws.length=q by omega,List.getElem?_append_left hql,hx]
    obtain⟨ih1,ih2⟩:=ih (by omega) (w++rest) (by rw [hW,List.append_assoc]) (n+w.length)
    rw [szs_app,List.length_append,show n+(ws.length+w.length)+4=n+w.length+ws.length+4 by omega]
    by_cases hj:j≤szs ws N
    · refine ⟨fun _=>?_,fun hc=>by omega⟩
      obtain⟨i',f',t',a1,a2,a3,a4,a5,a6⟩:=ih1 hj
      refine ⟨i',f',t',by omega,a2,a3,a4,a5,fun he q=>?_⟩
      have hz0:szs w N=0:=by omega
      have hsame:m=s.Items:=by
        cases hp with
        | same hsm hv=>
          rw [setI_same hmt.it hsm (by omega) hF] at hs
          exact (Option.some.inj hs).symm
        | app hv hr=>
          have hrl:=recB_len (i:Int) (vs i)
          rw [szs,szs,sz,if_neg (show ¬ (false=true) by decide)] at hz0
          simp only at hz0
          omega
        | new hv hr hc=>
          have hn0:=hm.n0
          rw [szs,szs,szs,szs,sz,sz,sz,if_pos rfl,if_neg (show ¬ (false=true) by decide),if_neg (show ¬ (false=true) by decide)] at hz0
          omega
      rw [a6 (by omega) q,← hcf2 q,hsame,hcf q]
    · rw [ih2 (by omega)]
      refine ⟨fun hc=>?_,fun hc=>?_⟩
      · obtain⟨f',t',b1,b2,b3,b4,b5⟩:=cut_key (W:=W) (p:=ws.length) (n:=n+w.length) (by omega) hm h (k:=(i:Int)) (by omega) (by omega) (hvb i (by omega)) hWs hp hs hml hmn (j - szs ws N) (by omega) (by omega) hF hFF
        rcases b4 with b4 | b4
        · exact⟨i,f',t',by omega,b1,b2,b3,fun q=>by rw [b4]; exact hcf q,fun he q=>by rw [b5 (by omega)]; exact hcf2 q⟩
        · exact⟨i+1,f',t',by omega,b1,b2,b3,fun q=>by rw [b4]; exact hcf2 q,fun he q=>by rw [b4]; exact hcf2 q⟩
      · have h1:=cut_skip (W:=W) hn1 hF w f g ws.length (n+4) (j - szs ws N) ha hm (fun x hx=>hok.1 x (by simp [hx])) hWs (by omega) (by omega) (by omega)
        rw [show n+w.length+4=n+4+w.length by omega,h1,show j - szs ws N - szs w N=j - (szs ws N+szs w N) by omega]
theorem vsOf_byte (l:List T_Bond) (k:Nat):∀x∈vsOf l k,Byte x:=by
  unfold vsOf
  split
  · exact encB_byte _
  · intro x h
    cases h
theorem vsOf_len {l:List T_Bond} (hv:∀b∈l,VB b) (k:Nat):(vsOf l k).length≤1024:=by
  unfold vsOf
  split
  · rename_i b h
    have:=(hv b (List.mem_of_getElem? h)).few
    rw [encB_len]
    omega
  · simp
theorem recs_ok (F:Nat) (l:List T_Bond) (hl:l.length≤16) (hv:∀b∈l,VB b) (hr:∀b∈l,RB b) (hF:200000<F):∃m,bonds_records F l=some (m,0)∧∀k:Nat,k<16→mval [] m k=vsOf l k:=by
  obtain⟨o,h1,h2⟩:=iter_by (body:=fun s:List (Int×List Int)×Int=>bonds_records_l1 F l s.1 s.2) (fun s=>∃i:Nat,s.2=(i:Int)∧i≤l.length∧∀k:Nat,k<16→mval [] s.1 k=if k<i then vsOf l k else []) (fun o=>∃m,o = .inl m∧∀k:Nat,k<16→mval [] m k=vsOf l k) (fun s=>l.length - s.2.toNat) (by
    rintro⟨m,j⟩ ⟨i,hi,hil,hm⟩
    simp only at hi hm
    subst hi
    show (∃s',bonds_records_l1 F l m (i:Int)=_∧_)∨∃o,bonds_records_l1 F l m (i:Int)=_∧_
    unfold bonds_records_l1
    by_cases hin:i<l.length
    · have hx:l[i]? = some l[i]:=List.getElem?_eq_getElem hin
      have hmem:=List.getElem_mem hin
      have hvs:vsOf l i=encB l[i]:=by unfold vsOf; rw [hx]
      rw [if_pos (dt (by rw [len_nat]; omega)),idx_nat,hx,Option.bind_some,enc_u F _ (by omega) (hv _ hmem) (hr _ hmem),Option.bind_some]
      simp only
      rw [if_neg (by decide),wu16_id (by omega) (by omega),w64_nat i (by omega)]
      refine .inl ⟨_,rfl,⟨i+1,rfl,by omega,fun k hk=>?_⟩,by simp only; omega⟩
      simp only
      rw [mval_mput,hm k hk]
      by_cases hki:k=i
      · subst hki
        rw [if_pos rfl,if_pos (by omega),hvs]
      · rw [if_neg (show ¬ ((k:Int)=(i:Int)) by omega)]
        by_cases h:k<i
        · rw [if_pos h,if_pos (by omega)]
        · rw [if_neg h,if_neg (by omega)]
    · rw [if_neg (df (by rw [len_nat]; omega))]
      refine .inr ⟨_,rfl,m,rfl,fun k hk=>?_⟩
      rw [hm k hk]
      by_cases h:k<i
      · rw [if_pos h]
      · rw [if_neg h]
        unfold vsOf
        rw [List.getElem?_eq_none (by omega)]) F ([],0) ⟨0,rfl,by omega,fun k hk=>by rw [if_neg (by omega)]; rfl⟩ (by simp only; omega)
  obtain⟨m,rfl,h2⟩:=h2
  unfold bonds_records
  rw [h1,Option.bind_some]
  exact⟨m,rfl,h2⟩
theorem plan_valid {F N:Nat} {f:T_Flash} {s:T_Store} (l:List T_Bond) (hl:l.length≤16) (hv:∀b∈l,VB b) (hr:∀b∈l,RB b) (hm:Mmy f N) (h:Mnt F f s) (hF:200000<F) (hFF:F≤FF) :
    ∃ws e,bonds_Plan F s l=some (ws,e)∧((e=0∧∃g t,Ch F N (vsOf l) f s 16 ws g t∧Mmy g N∧Mnt F g t∧ws.length≤48)∨(e=8∧ws=[])):=by
  obtain⟨m,r1,r2⟩:=recs_ok F l hl hv hr hF
  unfold bonds_Plan
  rw [len_nat,if_neg (df (by omega)),r1,Option.bind_some]
  simp only
  rw [if_neg (by decide)]
  obtain⟨o,k1,k2⟩:=keys_walk m 0 (vsOf l) r2 (fun k _=>vsOf_byte l k) (fun k _=>vsOf_len hv k) hm h hF hFF
  rw [k1,Option.bind_some]
  rcases k2 with ⟨ws,g,t,rfl,k2,k3,k4,k5⟩ | rfl
  · exact⟨ws,0,rfl,.inl ⟨rfl,g,t,k2,k3,k4,k5⟩⟩
  · exact⟨[],8,rfl,.inr ⟨rfl,rfl⟩⟩
theorem ld_congr {F:Nat} {vs ws:Nat→List Int}:∀(n:Nat),(∀i,i<n→vs i=ws i)→ld F vs n=ld F ws n
  | 0,_=>rfl
  | n+1,h=>by rw [ld,ld,ld_congr n fun i hi=>h i (by omega),h n (by omega)]
theorem ld_valid (F:Nat) (l:List T_Bond) (hv:∀b∈l,VB b) (hr:∀b∈l,RB b) (hd:Dis l) (hF:2000<F):∀i,ld F (vsOf l) i=l.take i
  | 0=>by simp [ld]
  | i+1=>by
    rw [ld,ld_valid F l hv hr hd hF i]
    by_cases hin:i<l.length
    · have hx:l[i]? = some l[i]:=List.getElem?_eq_getElem hin
      have hmem:=List.getElem_mem hin
      have hvs:vsOf l i=encB l[i]:=by unfold vsOf; rw [hx]
      rw [hvs,decO_enc F _ hF (hv _ hmem) (hr _ hmem)]
      unfold ad
      have hno:(l.take i).any (sameA l[i])=false:=by
        rw [List.any_eq_false]
        intro y hy
        obtain⟨k,hk⟩:=List.getElem?_of_mem hy
        rw [List.getElem?_take] at hk
        split at hk
        · rename_i hki
          rw [hd i k _ y hki hx hk]
          decide
        · cases hk
      simp only
      rw [hno,if_neg (by decide),List.take_add_one,hx,Option.toList_some]
    · have hvs:vsOf l i=[]:=by
        unfold vsOf
        rw [List.getElem?_eq_none (by omega)]
      rw [hvs,decO_nil]
      unfold ad
      rw [List.take_of_length_le (by omega),List.take_of_length_le (by omega)]
theorem fv_ok {l:List T_Item} (h:Lst l) (j:Int):(∀x∈fv l j,Byte x)∧(fv l j).length≤1024:=by
  unfold fv
  split
  · exact⟨(fun x h=>by cases h),by simp⟩
  · rename_i x hx
    have:=h.ok x (List.mem_of_find?_eq_some hx)
    exact⟨this.vb,this.vl⟩
theorem per_j3 {F N:Nat} {c:T_Flash} {s:T_Store} (hm:Mmy c N) (h:Mnt F c s) (x:T_wirelesslaw40_Step) (i:Nat) (hi:i≤100) (now:List T_Bond) (w:Wfl now) (mv:Mv (ld F (fun k=>fv s.Items k) 16) now) (hF:200000<F) (hFF:F≤FF) :
    ∃c' s',wirelesslaw40_BondsPersist_j3 F N c i (s,0) (ld F (fun k=>fv s.Items k) 16) x now=some (.next (c',((i+1:Nat):Int)))∧Mmy c' N∧Mnt F c' s':=by
  have hmt:=mnt_mtd hm h
  have hnl:=w.len
  have hn1:=hm.n1
  have hwas:Wfl (ld F (fun k=>fv s.Items k) 16):=ld_wl F _ (by omega) (fun k _=>(fv_ok hmt.it k).1) (fun k _=>by have:=(fv_ok hmt.it (k:Int)).2; omega)
  obtain⟨ws,e,p1,p2⟩:=plan_valid now hnl w.vb w.rb hm h hF hFF
  unfold wirelesslaw40_BondsPersist_j3
  rw [copy_ok' F now (by omega) w.ok,Option.bind_some]
  simp only
  rw [p1,Option.bind_some]
  unfold wirelesslaw40_BondsPersist_j4
  simp only
  rcases p2 with ⟨rfl,g,t0,c1,c2,c3,c4⟩ | ⟨rfl,rfl⟩
  · obtain⟨ok1,ok2⟩:=c1.okw
    have hz:=szs_le N hn1 ws fun y hy=>(ok1 y hy).b
    rw [if_neg (by decide),size_eq F ws N hn1 (fun y hy=>(ok1 y hy).b) (by omega) hF,Option.bind_some]
    have core:∀j:Int,0≤j→j≤szs ws N→∃c' s',wirelesslaw40_BondsPersist_j5 F N c i (ld F (fun k=>fv s.Items k) 16) now ws (szs ws N) j=some (.next (c',((i+1:Nat):Int)))∧Mmy c' N∧Mnt F c' s':=fun j j0 j1=>by
      obtain⟨n,hn⟩:∃n,F=n+ws.length+4:=⟨F - ws.length - 4,by omega⟩
      obtain⟨i',f',t,a1,a2,a3,a4,a5,a6⟩:=(cut_chain c1 (by omega) (fun k _=>vsOf_byte now k) ws [] (by simp) hm h j j0 (by omega) n hF hFF).1 j1
      rw [← hn] at a2
      have hmt':=mnt_mtd a3 a4
      have hil:=hmt'.il
      have hl1:=a3.l1
      have hl2:=a3.l2
      have hgot:Wfl (ld F (fun k=>fv t.Items k) 16):=ld_wl F _ (by omega) (fun k _=>(fv_ok hmt'.it k).1) (fun k _=>by have:=(fv_ok hmt'.it (k:Int)).2; omega)
      have hb:=btw (F:=F) (v0:=fun k=>fv s.Items k) (vm:=fun k=>fv t.Items k) w mv i' (fun q _=>a5 q) (by omega)
      unfold wirelesslaw40_BondsPersist_j5
      rw [a2,Option.bind_some]
      unfold wirelesslaw40_BondsPersist_j6
      rw [copy_id F f' (by omega) (by omega),Option.bind_some,mount_of a3 a4 hF hFF,Option.bind_some]
      simp only
      rw [load_ld F t hmt'.it (by omega) hF,Option.bind_some,if_neg (by decide),kept_ok F _ _ _ (by omega) hwas w hgot hb,Option.bind_some,Option.bind_some,if_neg (by decide)]
      have hsame:(if (j == szs ws N)=true then (wirelessref40_Same F (ld F (fun k=>fv t.Items k) 16) now).bind fun x_34=>some (!x_34) else some false)=some false:=by
        by_cases hj:j=szs ws N
        · rw [if_pos (by simp [hj]),ld_congr (ws:=vsOf now) 16 (fun q hq=>by rw [a6 hj q,if_pos hq]),ld_valid F now w.vb w.rb w.dis (by omega) 16,List.take_of_length_le (by omega),sameB_refl F now (by omega) (fun b hb=>by have:=(w.vb b hb).few; omega) hF]
          rfl
        · rw [if_neg (by simp [hj])]
      rw [hsame,Option.bind_some,if_neg (by decide)]
      unfold wirelesslaw40_BondsPersist_j2
      rw [w64_nat i (by omega)]
      exact⟨f',t,rfl,a3,a4⟩
    split
    · exact core _ hz.1 (Int.le_refl _)
    · rename_i hc
      simp only [Bool.or_eq_true,decide_eq_true_eq,not_or] at hc
      exact core _ (by omega) (by omega)
  · rw [if_pos (by decide)]
    unfold wirelesslaw40_BondsPersist_j2
    rw [w64_nat i (by omega)]
    exact⟨c,s,rfl,hm,h⟩
theorem copy_one (F:Nat) (b:T_Bond) (hb:b.Subs.length * 16≤140737488355328) (hF:2000<F):wirelessref40_Copy F [b]=some [b]:=by
  obtain⟨n,rfl⟩:∃n,F=n+1+1:=⟨F - 2,by omega⟩
  unfold wirelessref40_Copy wirelessref40_Copy_j1
  have e1:app 16 ([]:List T_Subscription) b.Subs=some b.Subs:=by
    unfold app
    rw [if_pos ⟨by simpa using hb,by simp; omega⟩]
    rfl
  have h1:wirelessref40_Copy_l1 (n+1+1) [b] [] 0=some (.next ([b],1)):=by
    unfold wirelessref40_Copy_l1
    rw [if_pos (dt (by rw [len_nat]; simp)),show idx [b] 0=some b from rfl,Option.bind_some,e1,Option.bind_some,app_small (by simp) (by decide),Option.bind_some]
    rfl
  have h2:wirelessref40_Copy_l1 (n+1+1) [b] [b] 1=some (.done [b]):=by
    unfold wirelessref40_Copy_l1
    rw [if_neg (df (by rw [len_nat]; simp))]
  have h3:iter (fun s:List T_Bond×Int=>wirelessref40_Copy_l1 (n+1+1) [b] s.1 s.2) (n+1+1) ([],0)=some [b]:=by
    rw [iter_step (s':=([b],1)) h1,iter_stop (o:=[b]) h2]
  rw [h3,Option.bind_some]
theorem rem_ok (F:Nat) (l:List T_Bond) (i:Int) (hF:2000<F) (w:Wfl l):∃m e,bonds_Remove F l i=some (m,e)∧Wfl m∧Mv l m:=by
  have h:=w.ok
  have hl:=h.len
  have hn:=len_nat l
  unfold bonds_Remove slices_Delete_api_Bond_api_Bond
  rw [clone_ok F l hF (by omega) h.few,Option.bind_some]
  by_cases hi:i<0∨i≥l.length
  · rw [if_pos (by simp; omega)]
    exact⟨l,5,rfl,w,mv_rfl l⟩
  obtain⟨k,rfl⟩:=Int.eq_ofNat_of_zero_le (a:=i) (by omega)
  rw [if_neg (by simp; omega),w64_nat k (by omega),if_pos (by omega),Option.bind_some]
  obtain⟨a1,a2⟩:=rem_wl w k
  exact⟨_,_,rfl,a1,a2⟩
theorem per_l1 {F N:Nat} {c:T_Flash} {s:T_Store} (hm:Mmy c N) (h:Mnt F c s) (ls:List T_wirelesslaw40_Step) (i:Nat) (hi:i≤100) (x:T_wirelesslaw40_Step) (hx:ls[i]? = some x) (hr:RB x.Bond) (hs:x.Bond.Subs.length * 16≤140737488355328) (hF:200000<F) (hFF:F≤FF) :
    ∃c' s',wirelesslaw40_BondsPersist_l1 F N ls c i=some (.next (c',((i+1:Nat):Int)))∧Mmy c' N∧Mnt F c' s':=by
  have hmt:=mnt_mtd hm h
  have hil:=hmt.il
  have hn1:=hm.n1
  have hl1:=hm.l1
  have hl2:=hm.l2
  have hin:=(List.getElem?_eq_some_iff.1 hx).1
  have hwas:Wfl (ld F (fun k=>fv s.Items k) 16):=ld_wl F _ (by omega) (fun k _=>(fv_ok hmt.it k).1) (fun k _=>by have:=(fv_ok hmt.it (k:Int)).2; omega)
  have j3:=fun now w mv=>per_j3 hm h x i hi now w mv hF hFF
  unfold wirelesslaw40_BondsPersist_l1
  rw [if_pos (dt (by rw [len_nat]; omega)),copy_id F c (by omega) (by omega),Option.bind_some,mount_of hm h hF hFF,Option.bind_some]
  simp only
  rw [load_ld F s hmt.it (by omega) hF,Option.bind_some]
  generalize ld F (fun k=>fv s.Items k) 16=was at *
  have hcopy:=copy_ok' F was (by omega) hwas.ok
  rw [hcopy,Option.bind_some,idx_nat,hx,Option.bind_some]
  by_cases h0:x.Kind=0
  · rw [if_pos (by simp [h0]),Option.bind_some,copy_one F x.Bond hs (by omega),Option.bind_some,show idx [x.Bond] 0=some x.Bond from rfl,Option.bind_some]
    obtain⟨e,k1,k2⟩:=check_ok F x.Bond (by omega) hr.bits
    rw [← check_same F x.Bond hr.bits] at k1
    by_cases he:e=0
    · subst he
      have hv:=k2.1 rfl
      rw [add_ok F was x.Bond (by omega) hwas.ok k1 (by have:=hv.few; omega),Option.bind_some]
      obtain⟨a1,a2⟩:=addL_wl hwas hv hr
      exact j3 _ a1 a2
    · rw [add_bad F was x.Bond e (by omega) hwas.ok k1 he,Option.bind_some]
      exact j3 _ hwas (mv_rfl _)
  · rw [if_neg (by simp [h0])]
    by_cases h1:x.Kind=1
    · rw [if_pos (by simp [h1]),Option.bind_some]
      obtain⟨m,e,r1,r2,r3⟩:=rem_ok F was x.Index (by omega) hwas
      rw [r1,Option.bind_some]
      exact j3 _ r2 r3
    · rw [if_neg (by simp [h1]),Option.bind_some]
      by_cases hix:x.Index<0∨x.Index≥was.length
      · rw [touch_out F was x.Index (by omega) hwas.ok hix,Option.bind_some]
        exact j3 _ hwas (mv_rfl _)
      · obtain⟨k,hk⟩:=Int.eq_ofNat_of_zero_le (a:=x.Index) (by omega)
        rw [hk,touch_ok F was k (by omega) hwas.ok (by omega),Option.bind_some]
        obtain⟨a1,a2⟩:=touchL_wl hwas (i:=k) (by omega)
        exact j3 _ a1 a2
theorem persist_law (F:Nat) (hL:wirelesslaw40_lives F=some true) (size:Int) (ls:List T_wirelesslaw40_Step) (hr:∀x∈ls,RB x.Bond∧x.Bond.Subs.length * 16≤140737488355328) (hF:200000<F) (hFF:F≤FF):wirelesslaw40_BondsPersist F size ls=some true:=by
  unfold wirelesslaw40_BondsPersist
  rw [hL,Option.bind_some,if_neg (by decide),len_nat]
  by_cases hg:64≤size∧size≤4096∧ls.length≤20
  · obtain⟨g1,g2,g3⟩:=hg
    obtain⟨N,rfl⟩:=Int.eq_ofNat_of_zero_le (a:=size) (by omega)
    rw [if_neg (by simp; omega),blank_mem F N (by omega) (by omega) hF,Option.bind_some]
    have hm:Mmy ⟨(List.replicate N 255,List.replicate N 255)⟩ N:=⟨by simp,by simp,by omega,by omega,rep_byte _,rep_byte _⟩
    have hn:∀n,¬ Head (List.replicate N 255) n:=fun n=>by
      have:=nohead_rep (k:=N) (by omega) [] n
      rwa [List.append_nil] at this
    have hmn:Mnt F ⟨(List.replicate N 255,List.replicate N 255)⟩ _:=.none hn hn
    obtain⟨o,h1,h2⟩:=iter_by (body:=fun s:T_Flash×Int=>wirelesslaw40_BondsPersist_l1 F N ls s.1 s.2)
      (fun z=>(∃s,Mmy z.1 N∧Mnt F z.1 s)∧∃i:Nat,z.2=(i:Int)∧i≤ls.length) (fun o=>o = .inl ()) (fun z=>ls.length - z.2.toNat) (by
      rintro⟨c,j⟩ ⟨⟨s,hc,hs⟩,i,hi,hil⟩
      simp only at hc hs hi
      subst hi
      show (∃s',wirelesslaw40_BondsPersist_l1 F N ls c (i:Int)=_∧_)∨∃o,wirelesslaw40_BondsPersist_l1 F N ls c (i:Int)=_∧_
      by_cases hin:i<ls.length
      · have hx:ls[i]? = some ls[i]:=List.getElem?_eq_getElem hin
        have hrx:=hr _ (List.getElem_mem hin)
        obtain⟨c',s',a1,a2,a3⟩:=per_l1 hc hs ls i (by omega) _ hx hrx.1 hrx.2 hF hFF
        exact .inl ⟨_,a1,⟨⟨s',a2,a3⟩,i+1,rfl,by omega⟩,by simp only; omega⟩
      · refine .inr ⟨.inl (),?_,rfl⟩
        unfold wirelesslaw40_BondsPersist_l1
        rw [if_neg (df (by rw [len_nat]; omega))]) F (_,0) ⟨⟨_,hm,hmn⟩,0,rfl,by omega⟩ (by simp only; omega)
    simp only
    rw [h1,Option.bind_some,h2]
    rfl
  · rw [if_pos (by simp; omega)]
theorem lives_ok:wirelesslaw40_lives FF=some true:=by kernel_rfl
theorem gu64 {x:Int} (h:GInt .u64 x):U64 x:=by
  have h1:IntKind.u64.min=0:=rfl
  have h2:IntKind.u64.max=18446744073709551615:=rfl
  unfold GInt at h
  rw [h1,h2] at h
  unfold U64
  omega
theorem gu16 {x:Int} (h:GInt .u16 x):0≤x∧x<65536:=by
  have h1:IntKind.u16.min=0:=rfl
  have h2:IntKind.u16.max=65535:=rfl
  unfold GInt at h
  rw [h1,h2] at h
  omega
theorem gbyte {x:Int} (h:GInt .u8 x):Byte x:=by
  have h1:IntKind.u8.min=0:=rfl
  have h2:IntKind.u8.max=255:=rfl
  unfold GInt at h
  rw [h1,h2] at h
  unfold Byte
  omega
theorem gbond {b:T_Bond} (h:G_T_Bond b):RB b:=by
  obtain⟨⟨⟨_,h1⟩,h2⟩,h3,h4,_,h5,_,h6,_⟩:=h
  exact⟨gu64 h1,gu64 h2,gu64 h3,gu64 h4,gu64 h5,fun s hs=>gu16 (h6.2.2 s hs).1⟩
theorem persist_g (size:Int) (ls:List T_wirelesslaw40_Step) (h:GAll G_T_wirelesslaw40_Step ls):wirelesslaw40_BondsPersist FF size ls=some true:=
  persist_law FF lives_ok size ls (fun x hx=>⟨gbond (h.2 x hx).2.1,by
    have:=(h.2 x hx).2.1.2.2.2.2.2.2.1.1
    simp only [reachBytes] at this
    omega⟩) (by decide) (Nat.le_refl _)
end V
end Go.Proofs.YtbdhonofhlpdoaaDoor
