/- An element of a row of the call's own is wn. -/
import Derived.Test.YtoahakdkgefgiaaGreatNil
import Derived.Lib.ConvBytes
import Derived.KernelRfl
namespace Go.Proofs.YtoahakdkgefgiaaGreat
namespace V
def bm:Nat→Nat→List Bool
  | 0,_=>[]
  | k+1,n=>(n % 2 == 1)::bm k (n / 2)
theorem K {p:Prop} (h:p:=by kernel_rfl):p:=h
abbrev J (x:Int):SV:=vi .i64 x
def gsF:Nat→Nat→List Jx
  | 0,_=>[]
  | n+1,i=>.g i::gsF n (i+1)
abbrev gs (n:Nat):List Jx:=gsF n 0
abbrev I:Bool:=true
abbrev O:Bool:=false
section
variable {P:Program} {N n0:Nat} {fx:Fx} {its its':List Item} {κ:List Conc} {w:World} {tt:TT} {env:Env'}
theorem kl_any:(kl its).any Item.ow=false:=by
  rw [List.any_eq_false]
  intro it hit
  rw [kl_ow it hit]
  exact Bool.false_ne_true
end
section
variable {P:Program} {N n0:Nat} {fx:Fx} {its its':List Item} {κ:List Conc} {w w0:World} {tt:TT} {env:Env'} {l:Env} {t:TypeId} {ps:String} {af:Array Edge} {g:Option (Nat×Bool)} {U0:Nat→Prop} {X0:List (Option Nat)} {L:List (Option Nat)}
theorem rs_storeF {q0:Nat} {α:Type} {ty E:TypeId} {sz n:Nat} {x y:Operand} {iv:Int} {b i c o:Nat} {v:Value} {vs es:List Value} {R:RT α} [GRep R] {dt dt':List α} {e:α} (h2:∀w,(sizeOf ty).run P w = .ok n w) (hx:ev l x=some (.pointer (some ⟨b,q0+(iv.toNat * sz+o),none⟩))) (hy:ev l y=some v) (hvs:v.cells=vs.toArray) (hn:vs.length=n) (hes:es.length=sz) (ho:o+n≤sz)
    (hcur:∀k u,es[k]? = some u→w.cell? ⟨b,q0+(iv.toNat * sz+k),none⟩=some u)
    (h:Own sz E R (Mu U0 L) w (some ⟨b,q0,none⟩) c dt) (hr:R (Mu U0 L) w (es.take o++vs++es.drop (o+n)) e) (hi:upd dt iv e=some dt') (hL:L[i]? = some (some b)) (C:Ctx U0 X0 w0 L w) :
    RunSK P N l ⟨none,.store ty x y,t,ps,af,g⟩ w (OwnTurned sz E R U0 X0 w0 L w (some ⟨b,q0,none⟩) c dt'):=fun a ha=>by
  obtain⟨h0,h1,rfl⟩:=upd_some hi
  rcases own_form h with ⟨hA,_⟩ | ⟨b',pre,cur,post,fz,hA,hfz,hg,hle,hm,hsz,he⟩
  · cases hA
  · injection hA with hA
    injection hA with hA hA2
    subst hA
    subst hA2
    have hk:iv.toNat<dt.length:=by omega
    have hfit0:iv.toNat * sz+sz≤cur.length:=by
      rw [hsz,← Nat.succ_mul]
      exact Nat.mul_le_mul_right _ (by omega)
    have h1c:=GRep.one hr
    have hst:=run_storeCells_z P b (pre.length+(iv.toNat * sz+o)) E fz vs 0 _ w hg (by simpa using hfz) (by simp only [List.size_toArray,List.length_append]; omega) (fun u hu=>h1c u (by simp [hu]))
    simp only [Nat.add_zero] at hst
    rw [row_put (by omega)] at hst
    have hseg:cur=cur.take (iv.toNat * sz)++es++cur.drop (iv.toNat * sz+sz):=by
      have he2:(cur.drop (iv.toNat * sz)).take sz=es:=by
        refine List.ext_getElem? fun k=>?_
        by_cases hk2:k<sz
        · have hke:es[k]? = some (es[k]'(by omega)):=List.getElem?_eq_getElem (by omega)
          have:=hcur k _ hke
          simp only [World.cell?,hg] at this
          rw [List.getElem?_take,if_pos hk2,List.getElem?_drop,hke,← this,← row_get (pre:=pre) (post:=post) (by omega)]
          simp
        · rw [List.getElem?_eq_none (by rw [List.length_take]; omega),List.getElem?_eq_none (by omega)]
      rw [← he2,List.append_assoc,← List.drop_drop,List.take_append_drop,List.take_append_drop]
    have hA:(cur.take (iv.toNat * sz)).length=iv.toNat * sz:=by
      rw [List.length_take]
      omega
    generalize hAA:cur.take (iv.toNat * sz)=A0 at hseg hA
    generalize hDD:cur.drop (iv.toNat * sz+sz)=D0 at hseg
    have hrow:cur.take (iv.toNat * sz+o)++vs++cur.drop (iv.toNat * sz+o+vs.length)=A0++(es.take o++vs++es.drop (o+n))++D0:=by
      have q1:cur.take (iv.toNat * sz+o)=A0++es.take o:=by
        rw [hseg,← hA,List.append_assoc,List.take_append,Nat.add_sub_cancel_left,List.take_of_length_le (by omega),List.take_append,show o - es.length=0 from by omega,List.take_zero,List.append_nil]
      have q2:cur.drop (iv.toNat * sz+o+vs.length)=es.drop (o+n)++D0:=by
        rw [hseg,← hA,List.append_assoc,Nat.add_assoc,List.drop_append,List.drop_of_length_le (by omega),List.nil_append,Nat.add_sub_cancel_left,hn,List.drop_append,show o+n - es.length=0 from by omega,List.drop_zero]
      rw [q1,q2]
      simp only [List.append_assoc]
    have hvl:(es.take o++vs++es.drop (o+n)).length=sz:=by
      rw [List.length_append,List.length_append,List.length_take,List.length_drop]
      omega
    generalize es.take o++vs++es.drop (o+n)=vs1 at hr hrow hvl
    obtain⟨k1,k2,k3⟩:=setRow_turnz C hL hg (cs':=pre++(A0++vs1++D0)++post)
    have hrowlen:(A0++vs1++D0).length=cur.length:=by
      have:=congrArg List.length hseg
      rw [List.length_append,List.length_append] at this
      rw [List.length_append,List.length_append]
      omega
    refine ⟨_,?_,?_,k2,k3⟩
    · simp only [execOp,ha.ev hx,ha.ev hy,Instr.storeAt,Instr.sureAddr,storeVar,Sem.run_bind,Sem.run_pure,Result.andThen_ok,h2,hvs,List.size_toArray,hn]
      rw [hn] at hrow
      simp [hst,hn,hrow]
    · refine own_mk2 (by rw [row_len hrowlen]; exact hfz) k1 (by simpa using hle) hm (by rw [hrowlen]; exact hsz) ?_
      have hset:=Els.set dt _ iv.toNat e vs1 he hk hvl hr
      have e1:(A0++vs1++D0).take ((dt.set iv.toNat e).length * sz) =
          (cur.take (dt.length * sz)).take (iv.toNat * sz)++vs1++(cur.take (dt.length * sz)).drop (iv.toNat * sz+sz):=by
        have hk2:iv.toNat * sz+sz≤dt.length * sz:=by rw [← Nat.succ_mul]; exact Nat.mul_le_mul_right _ (by omega)
        rw [List.length_set,List.take_take,List.drop_take,Nat.min_eq_left (by omega:iv.toNat * sz≤dt.length * sz),hAA,hDD]
        rw [List.append_assoc,List.take_append,List.take_of_length_le (by omega),List.take_append,List.take_of_length_le (by omega),← List.append_assoc]
        congr 2
        omega
      rw [e1]
      exact Els.step k3.h1 k3.mono _ _ hset
theorem e_updf {α:Type} {sz:Nat} {E:TypeId} {R:RT α} [GRep R] {l l':List α} {e:α} (htt:TTOk P tt) {ty:TypeId} {x y:Operand} {i j o:Nat} {iv:Int} {v:SV} {cs0 cs cs1:List Cell}
    (hx:evS env x=some (vp j o)) (hj:its[j]? = some (.elt (some (i,iv)) true cs0)) (hi:its[i]? = some (.own sz E R l)) (hki:(kl its)[i]? = some (.own sz E R l)) (hy:evS env y=some v) (hv:v.cells its=some cs) (h1:cs0.take o++cs++cs0.drop (o+cs.length)=cs1) (hc:Clo its R cs1 e)
    (hl:(Nat.beq cs0.length sz&&Nat.ble (o+cs.length) sz)=true) (hT:(match lkT ty tt with
      | some ti=>Nat.beq ti.size cs.length
      | none=>false)=true) (hu:upd l iv e=some l') :
    Eff P N n0 fx env its ⟨none,.store ty x y,t,ps,af,g⟩ none ((kl its).set i (.own sz E R l')):=fun κ w S a ha=>by
  subst h1
  simp only [Bool.and_eq_true,Nat.beq_eq] at hl
  obtain⟨hl1,hl2⟩:=hl
  have hl2:=Nat.le_of_ble_eq_true hl2
  split at hT
  · rename_i ti ht
    simp only [Nat.beq_eq] at hT
    obtain⟨c,hcj,hokj⟩:=S.conc hj
    cases c with
    | a ad=>
      obtain⟨hat,_,A,n,c,hci,had,h0,h1⟩:=hokj
      obtain⟨c',hci',hoki⟩:=S.conc hi
      rw [hci] at hci'
      injection hci' with hci'
      subst hci'
      obtain⟨hn,ho⟩:=hoki
      rcases own_form ho with ⟨hA,_⟩ | ⟨b,pre,cur,post,fz,hA,_⟩
      · cases hA
      · injection hA with hA
        subst hA
        have had2:ad=⟨b,pre.length+iv.toNat * sz,none⟩:=by rw [had,hl1,add_lit]
        subst had2
        have hx':=eD (κ:=κ) hx
        simp only [SV.den,Cell.den,hcj] at hx'
        have hx2:ev (denE κ env) x=some (.pointer (some ⟨b,pre.length+(iv.toNat * sz+o),none⟩)):=by
          rw [hx',add_lit,Nat.add_assoc]
        have hL:(Lof its κ)[i]? = some (some b):=Lof_get hi hci
        have hcc:=hc S
        rw [List.map_append,List.map_append,List.map_take,List.map_drop] at hcc
        have hrun:=rs_storeF (P:=P) (N:=N) (t:=t) (ps:=ps) (af:=af) (g:=g) (o:=o) (n:=cs.length) (es:=cs0.map (Cell.den κ)) (fun w=>by have:=(htt.get ht).size w; rw [hT] at this; exact this) hx2 (eD hy) (cells_den S.kno hv) (by simp) (by simpa using hl1) hl2 (fun k u hu=>by
          have:=hat.2 k u hu
          rw [add_lit,Nat.add_assoc] at this
          exact this) ho hcc hu hL S.ctx
        obtain⟨w',hr,hst⟩:=hrun a ha
        refine .inr (.inl ⟨w',hr,⟨[],⟨fun z hz=>(by cases hz),?_⟩⟩⟩)
        rw [List.append_nil]
        have hlen:l'.length=l.length:=by obtain⟨_,_,rfl⟩:=upd_some hu; simp
        have hst':OwnTurned sz E R fx.U0 fx.X0 fx.w0 (Lof (kl its) κ) w (some ⟨b,pre.length,none⟩) c l' w':=by rw [Lof_kl]; exact hst
        exact ownTurned_st S.kill kl_any hki hci hn hlen hst'
    | _=>exact hokj.elim
  · cases hT
end
section
variable {P:Program} {N n0:Nat} {fx:Fx} {its its':List Item} {κ:List Conc} {w w0:World} {tt:TT} {env:Env'} {l:Env} {d:Option Nat} {t:TypeId} {ps:String} {af:Array Edge} {g:Option (Nat×Bool)} {U0:Nat→Prop} {X0:List (Option Nat)} {L:List (Option Nat)}
theorem els_str (s:List UInt8) (U:Nat→Prop) (w:World):Els 1 (RInt .u8) U w (s.map fun b=>Value.int .u8 b.toNat) (s.map fun b=>(b.toNat:Int)):=by
  induction s with
  | nil=>rfl
  | cons b s ih=>exact⟨[.int .u8 b.toNat],_,rfl,rfl,rfl,ih⟩
theorem rw_s2b {src dst E:TypeId} {x:Operand} {s:ByteArray} {u:TypeDesc} {l':List Int} (hbt:E=BT) (hu:P.underlying src=some u) (hd:P.underlying dst=some (.slice E)) (hE:P.underlying E=some (.int .u8)) (hx:ev l x=some (.string s)) (ha:app 1 ([]:List Int) (strOf s)=some l') (C:Ctx U0 X0 w0 L w) :
    RunW P N l ⟨d,.convert src dst x,t,ps,af,g⟩ w (OwnNew 1 E (RInt .u8) U0 X0 w0 L w [] (fun y=>y::L) l'):=fun a haa=>by
  obtain⟨hb1,_,rfl⟩:=app_some ha
  rw [List.nil_append] at *
  have hlen:(strOf s).length=s.size:=by
    unfold strOf
    rw [List.length_map,Go.ByteArray.toList_eq]
    exact Array.length_toList
  have hmax:s.size≤maxLen:=by
    rw [hlen] at hb1
    simp only [maxLen]
    simp at hb1
    omega
  have hcap:=grownCap_le_maxLen w s.size 0 E hmax
  have hge:=grownCap_ge w s.size 0 E
  have hrun:=Lib.run_convert_string_bytes (P:=P) w src dst E s hu hd hE
  have hsz:=Lib.bytesWorld_size w E s
  obtain⟨C1,T1⟩:=C.addNone.1.turn (w':=Lib.bytesWorld w E s) (i:=0) (x:=none) (y:=some w.heap.size) (L':=some w.heap.size::L) rfl rfl rfl rfl (by omega) (fun b hb _=>Lib.bytesWorld_at_old w E s b hb) (.inr (.inr ⟨rfl,by omega⟩)) rfl
  have hcs:(Lib.bytesCells w E s).size=grownCap w s.size 0 E:=by
    unfold Lib.bytesCells
    rw [Array.size_append,Array.size_map,Array.size_replicate]
    show s.size+_=_
    omega
  refine ⟨_,Lib.bytesWorld w E s,?_,some ⟨w.heap.size,0,none⟩,grownCap w s.size 0 E,by rw [hlen],?_,C1,⟨by omega,fun b hb _=>Lib.bytesWorld_at_old w E s b hb,fun b e=>(by simp at e),fun b hb hM=>?_⟩⟩
  · simp only [execOp,haa.ev hx,Sem.run_bind,hrun,Result.andThen_ok]
    rfl
  · refine own_mk (.inr ⟨Nat.le_refl _,hbt⟩) (Lib.bytesWorld_at_new w E s) (by rw [hlen]; exact hge) hcap (by rw [hcs,Nat.mul_one]) ?_
    have e:(Lib.bytesCells w E s).toList.take ((strOf s).length * 1)=s.data.toList.map fun b=>Value.int .u8 b.toNat:=by
      unfold Lib.bytesCells
      rw [Nat.mul_one,hlen,Array.toList_append,Array.toList_map]
      have:(s.data.toList.map fun b=>Value.int IntKind.u8 b.toNat).length=s.size:=by rw [List.length_map]; exact Array.length_toList
      rw [← this]
      exact List.take_left
    rw [e]
    unfold strOf
    rw [Go.ByteArray.toList_eq]
    exact els_str _ _ _
  · have:=T1.mono b hb hM
    rcases this with h | h
    · exact .inl h
    · exact .inr (by simpa using h)
inductive StrV (its:List Item) (s:List Int):SV→Prop
  | t {j:Nat} (h:its[j]? = some (.str s)):StrV its s (vt j)
  | c {b:ByteArray} (h:strOf b=s):StrV its s (.c (.v (.string b)))
theorem e_s2b (htt:TTOk P tt) {src dst E:TypeId} {x:Operand} {v:SV} {s l':List Int} (hx:evS env x=some v) (hs:StrV its s v) (ha:app 1 ([]:List Int) s=some l')
    (hT:(match lkT src tt,lkT dst tt,lkT E tt with
      | some ⟨.string,_,_,_,_⟩,some ⟨.slice E',_,_,_,_⟩,some ⟨.int .u8,_,_,_,_⟩=>Nat.beq E' E&&Nat.beq E 5 && !its.any Item.ow
      | _,_,_=>false)=true):Eff P N n0 fx env its ⟨d,.convert src dst x,t,ps,af,g⟩ (some (vs its.length)) (its++[.own 1 E (RInt .u8) l']):=fun κ w S a haa=>by
  split at hT
  · rename_i E' _ _ _ _ _ _ _ _ _ _ _ _ h1 h2 h3
    simp only [Bool.and_eq_true,Bool.not_eq_true',Nat.beq_eq] at hT
    obtain⟨⟨rfl,hbt⟩,how⟩:=hT
    have hx':=eD (κ:=κ) hx
    have hb:∃b:ByteArray,v.den κ = .string b∧strOf b=s:=by
      cases hs with
      | @t j h=>
        obtain⟨c,hc,hok⟩:=S.conc h
        cases c with
        | s b=>exact⟨b,by simp [SV.den,Cell.den,hc],hok⟩
        | _=>exact hok.elim
      | @c b h=>exact⟨b,rfl,h⟩
    obtain⟨b,hb1,rfl⟩:=hb
    rw [hb1] at hx'
    exact Does.of_runW (rw_s2b hbt (htt.get h1).und (htt.get h2).und (htt.get h3).und hx' ha S.ctx) haa fun v w' hk=>newOwn_st S how hk
  · cases hT
end
section
variable {P:Program} {N n0:Nat} {fx:Fx} {its its' itsK:List Item} {κ1:List Conc} {env:Env'} {tt:TT} {ops:Array Oper} {Kn:Act→World→Prop} {Ke:Nat→Act→World→Prop} {Kr:Act→World→Prop} {bs:List Bool} {fuel:Nat} {rest:List Oper}
theorem SW.f {ks:List Bool} {d:Nat} {oi:Oper} {v:SV} (D:DK ks itsK κ1) (i:Nat) (bs':List Bool) (hi:ops[i]? = some oi) (hg:oi.guard=none) (hd:oi.dst=some d) (he:Eff P N n0 fx env its oi (some v) its')
    (hk:SD P ops Kn ks itsK κ1 fuel bs' N n0 fx ((d,v)::env) its') (hN:(Nat.blt d N&&v.lt its'.length)=true:=by kernel_rfl) (hb:bs.set i true=bs':=by rfl) (hK:mask ks its'=itsK:=by kernel_rfl):SW P ops Kn ks itsK κ1 fuel bs N n0 fx env its i:=SW.eff D hi (.inl hg) hd he hN hb hK hk
theorem SW.v {ks:List Bool} {d:Nat} {oi:Oper} (D:DK ks itsK κ1) (i:Nat) (v:SV) (bs':List Bool) (hi:ops[i]? = some oi) (hg:oi.guard=none) (hd:oi.dst=some d) (he:Eff P N n0 fx env its oi (some v) its')
    (hk:SD P ops Kn ks itsK κ1 fuel bs' N n0 fx ((d,v)::env) its') (hN:(Nat.blt d N&&v.lt its'.length)=true:=by kernel_rfl) (hb:bs.set i true=bs':=by rfl) (hK:mask ks its'=itsK:=by kernel_rfl):SW P ops Kn ks itsK κ1 fuel bs N n0 fx env its i:=SW.eff D hi (.inl hg) hd he hN hb hK hk
theorem SW.w (htt:TTOk P tt) {ks:List Bool} {d:Nat} {oi:Oper} (D:DK ks itsK κ1) (i:Nat) (v:SV) (bs':List Bool) (hk:SD P ops Kn ks itsK κ1 fuel bs' N n0 fx ((d,v)::env) its) (hi:ops[i]? = some oi:=by rfl) (hg:oi.guard=none:=by rfl) (hd:oi.dst=some d:=by rfl) (hv:sv1 tt (fun _=>true) its (evS env) oi.op=some v:=by kernel_rfl)
    (hN:(Nat.blt d N&&v.lt its.length)=true:=by kernel_rfl) (hb:bs.set i true=bs':=by rfl) (hK:mask ks its=itsK:=by kernel_rfl):SW P ops Kn ks itsK κ1 fuel bs N n0 fx env its i:=SW.eff D hi (.inl hg) hd (e_val htt hv) hN hb hK hk
theorem SD.t {ks:List Bool} (htt:TTOk P tt) (D:DK ks itsK κ1) (is:List Nat) (bs':List Bool) (env':Env') {fuel':Nat} (hk:SD P ops Kn ks itsK κ1 fuel' bs' N n0 fx env' its) (hf:fuel=fuel'+is.length:=by rfl) (hsel:Region.noSelect ops=true:=by kernel_rfl) (hK:mask ks its=itsK:=by kernel_rfl)
    (h:takeT N tt [] itsK its.length ops is [] bs env (env'.map (·.1))=some (bs',env',[],[]):=by kernel_rfl):SD P ops Kn ks itsK κ1 fuel bs N n0 fx env its:=SD.tk5 htt D [] kn0 is [] [] bs' env' hf hsel hK h hk
theorem SL.f {d:Nat} {op:Op} {t:TypeId} {ps:String} {af:Array Edge} {v:SV} (h:Eff P N n0 fx env its ⟨some d,op,t,ps,af,none⟩ (some v) its') (hk:SL P ops rest Kn N n0 fx ((d,v)::env) its') (hd:Nat.blt d N=true:=by rfl) (hv:v.lt its'.length=true:=by kernel_rfl):SL P ops (⟨some d,op,t,ps,af,none⟩::rest) Kn N n0 fx env its:=SL.eff h hd hv hk
theorem A.t {a:Act} {w:World} {env':Env'} (h:A N n0 fx env its a w) (js:List Jx) (e:(renE js env',renIs js its',vwB n0 its.length js env' its' (lkEs env env') (srcs its js its'))=(lkEs env env',srcs its js its',true):=by kernel_rfl):A N n0 fx env' its' a w:=h.at e
theorem SC.q {fn:Func} {rs:SV} (htt:TTOk P tt) (js:List Jx) (e:((renS js rs,(renS js rs).isSome),renIs js its',vwB n0 its.length js [(0,rs)] its' (some []) (srcs its js its'))=(((resS tt env its fn.results.toList).bind retS,true),srcs its js its',true):=by kernel_rfl):SC P .ret Kn Ke (RetE P fn n0 fx rs its') N n0 fx env its:=SC.re htt e
theorem SC.j {c:Operand} {x y:Code} {α:Type} {e:Bool} {X Y:Option α} {r:α} (hp:(if e=true then X else Y)=some r) (ht:X=some r→SC P x Kn Ke Kr N n0 fx env its) (hf:Y=some r→SC P y Kn Ke Kr N n0 fx env its) (hc:evS env c=some (vb e):=by rfl):SC P (.cond c x y) Kn Ke Kr N n0 fx env its:=SC.if' hc hp ht hf
theorem SD.w {ks:List Bool} {env':Env'} (D:DK ks itsK κ1) (js:List Jx) (hk:SD P ops Kn ks itsK κ1 fuel bs N n0 fx env' its') (e:(preB itsK.length js,renE js env',renIs js its',vwB n0 its.length js env' its' (lkEs env env') (srcs its js its'))=(true,lkEs env env',srcs its js its',true):=by kernel_rfl):SD P ops Kn ks itsK κ1 fuel bs N n0 fx env its:=SD.view D js hk e
theorem bB (b:Bool):b=true∨b=false:=Bool.eq_false_or_eq_true b
theorem SL.m (htt:TTOk P tt) (k:Nat) (env':Env') (hk:SL P ops (rest.drop k) Kn N n0 fx env' its) (h:simT N tt (fun _=>true) ops (rest.take k) [] env its (env'.map (·.1))=some (env',its,[],[]):=by kernel_rfl):SL P ops rest Kn N n0 fx env its:=SL.sim htt k env' [] [] [] h hk
theorem SC.m (htt:TTOk P tt) {id:Nat} {os:List Oper} {y:Code} (env':Env') (hk:SC P y Kn Ke Kr N n0 fx env' its) (h:simT N tt (fun _=>true) os.toArray os [] env its (env'.map (·.1))=some (env',its,[],[]):=by kernel_rfl):SC P (.seq (.region id os.toArray false) y) Kn Ke Kr N n0 fx env its:=SC.r htt env' [] [] [] h hk
theorem SC.s {id:Nat} {os:List Oper} {y:Code} (h:SL P os.toArray os (fun a w=>wp3 P fx.px y Kn Ke Kr a w) N n0 fx env its):SC P (.seq (.region id os.toArray false) y) Kn Ke Kr N n0 fx env its:=SC.seq (SC.reg h)
end
end V
end Go.Proofs.YtoahakdkgefgiaaGreat
