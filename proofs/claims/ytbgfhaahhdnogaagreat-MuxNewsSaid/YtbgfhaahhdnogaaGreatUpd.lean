/- An element of a row of the call's own is wn. -/
import Derived.Test.YtbgfhaahhdnogaaGreatNil
import Derived.Lib.ConvBytes
import Derived.KernelRfl
namespace Go.Proofs.YtbgfhaahhdnogaaGreat
namespace V
def bm:Nat→Nat→List Bool
  | 0,_=>[]
  | k+1,n=>(n % 2 == 1)::bm k (n / 2)
theorem K {p:Prop} (h:p:=by kernel_rfl):p:=h
abbrev J (x:Int):SV:=vi .i64 x
def gsF:Nat→Nat→List Jx
  | 0,_=>[]
  | n+1,i=>.g i::gsF n (i+1)
abbrev gs (n:Nat):List Jx:=gsF n 0
abbrev I:Bool:=true
abbrev O:Bool:=false
section
variable {P:Program} {N n0:Nat} {fx:Fx} {its its':List Item} {κ:List Conc} {w:World} {tt:TT} {env:Env'}
theorem kl_any:(kl its).any Item.ow=false:=by
  rw [List.any_eq_false]
  intro it hit
  rw [kl_ow it hit]
  exact Bool.false_ne_true
end
section
variable {P:Program} {N n0:Nat} {fx:Fx} {its its':List Item} {κ:List Conc} {w w0:World} {tt:TT} {env:Env'} {l:Env} {t:TypeId} {ps:String} {af:Array Edge} {g:Option (Nat×Bool)} {U0:Nat→Prop} {X0:List (Option Nat)} {L:List (Option Nat)}
theorem rs_storeF {q0:Nat} {α:Type} {ty E:TypeId} {sz n:Nat} {x y:Operand} {iv:Int} {b i c o:Nat} {v:Value} {vs es:List Value} {R:RT α} [GRep R] {dt dt':List α} {e:α} (h2:∀w,(sizeOf ty).run P w = .ok n w) (hx:ev l x=some (.pointer (some ⟨b,q0+(iv.toNat * sz+o),none⟩))) (hy:ev l y=some v) (hvs:v.cells=vs.toArray) (hn:vs.length=n) (hes:es.length=sz) (ho:o+n≤sz)
    (hcur:∀k u,es[k]? = some u→w.cell? ⟨b,q0+(iv.toNat * sz+k),none⟩=some u)
    (h:Own sz E R (Mu U0 L) w (some ⟨b,q0,none⟩) c dt) (hr:R (Mu U0 L) w (es.take o++vs++es.drop (o+n)) e) (hi:upd dt iv e=some dt') (hL:L[i]? = some (some b)) (C:Ctx U0 X0 w0 L w) :
    RunSK P N l ⟨none,.store ty x y,t,ps,af,g⟩ w (OwnTurned sz E R U0 X0 w0 L w (some ⟨b,q0,none⟩) c dt'):=fun a ha=>by
  obtain⟨h0,h1,rfl⟩:=upd_some hi
  rcases own_form h with ⟨hA,_⟩ | ⟨b',pre,cur,post,fz,hA,hfz,hg,hle,hm,hsz,he⟩
  · cases hA
  · injection hA with hA
    injection hA with hA hA2
    subst hA
    subst hA2
    have hk:iv.toNat<dt.length:=by omega
    have hfit0:iv.toNat * sz+sz≤cur.length:=by
      rw [hsz,← Nat.succ_mul]
      exact Nat.mul_le_mul_right _ (by omega)
    have h1c:=GRep.one hr
    have hst:=run_storeCells_z P b (pre.length+(iv.toNat * sz+o)) E fz vs 0 _ w hg (by simpa using hfz) (by simp only [List.size_toArray,List.length_append]; omega) (fun u hu=>h1c u (by simp [hu]))
    simp only [Nat.add_zero] at hst
    rw [row_put (by omega)] at hst
    have hseg:cur=cur.take (iv.toNat * sz)++es++cur.drop (iv.toNat * sz+sz):=by
      have he2:(cur.drop (iv.toNat * sz)).take sz=es:=by
        refine List.ext_getElem? fun k=>?_
        by_cases hk2:k<sz
        · have hke:es[k]? = some (es[k]'(by omega)):=List.getElem?_eq_getElem (by omega)
          have:=hcur k _ hke
          simp only [World.cell?,hg] at this
          rw [List.getElem?_take,if_pos hk2,List.getElem?_drop,hke,← this,← row_get (pre:=pre) (post:=post) (by omega)]
          simp
        · rw [List.getElem?_eq_none (by rw [List.length_take]; omega),List.getElem?_eq_none (by omega)]
      rw [← he2,List.append_assoc,← List.drop_drop,List.take_append_drop,List.take_append_drop]
    have hA:(cur.take (iv.toNat * sz)).length=iv.toNat * sz:=by
      rw [List.length_take]
      omega
    generalize hAA:cur.take (iv.toNat * sz)=A0 at hseg hA
    generalize hDD:cur.drop (iv.toNat * sz+sz)=D0 at hseg
    have hrow:cur.take (iv.toNat * sz+o)++vs++cur.drop (iv.toNat * sz+o+vs.length)=A0++(es.take o++vs++es.drop (o+n))++D0:=by
      have q1:cur.take (iv.toNat * sz+o)=A0++es.take o:=by
        rw [hseg,← hA,List.append_assoc,List.take_append,Nat.add_sub_cancel_left,List.take_of_length_le (by omega),List.take_append,show o - es.length=0 from by omega,List.take_zero,List.append_nil]
      have q2:cur.drop (iv.toNat * sz+o+vs.length)=es.drop (o+n)++D0:=by
        rw [hseg,← hA,List.append_assoc,Nat.add_assoc,List.drop_append,List.drop_of_length_le (by omega),List.nil_append,Nat.add_sub_cancel_left,hn,List.drop_append,show o+n - es.length=0 from by omega,List.drop_zero]
      rw [q1,q2]
      simp only [List.append_assoc]
    have hvl:(es.take o++vs++es.drop (o+n)).length=sz:=by
      rw [List.length_append,List.length_append,List.length_take,List.length_drop]
      omega
    generalize es.take o++vs++es.drop (o+n)=vs1 at hr hrow hvl
    obtain⟨k1,k2,k3⟩:=setRow_turnz C hL hg (cs':=pre++(A0++vs1++D0)++post)
    have hrowlen:(A0++vs1++D0).length=cur.length:=by
      have:=congrArg List.length hseg
      rw [List.length_append,List.length_append] at this
      rw [List.length_append,List.length_append]
      omega
    refine ⟨_,?_,?_,k2,k3⟩
    · simp only [execOp,ha.ev hx,ha.ev hy,Instr.storeAt,Instr.sureAddr,storeVar,Sem.run_bind,Sem.run_pure,Result.andThen_ok,h2,hvs,List.size_toArray,hn]
      rw [hn] at hrow
      simp [hst,hn,hrow]
    · refine own_mk2 (by rw [row_len hrowlen]; exact hfz) k1 (by simpa using hle) hm (by rw [hrowlen]; exact hsz) ?_
      have hset:=Els.set dt _ iv.toNat e vs1 he hk hvl hr
      have e1:(A0++vs1++D0).take ((dt.set iv.toNat e).length * sz) =
          (cur.take (dt.length * sz)).take (iv.toNat * sz)++vs1++(cur.take (dt.length * sz)).drop (iv.toNat * sz+sz):=by
        have hk2:iv.toNat * sz+sz≤dt.length * sz:=by rw [← Nat.succ_mul]; exact Nat.mul_le_mul_right _ (by omega)
        rw [List.length_set,List.take_take,List.drop_take,Nat.min_eq_left (by omega:iv.toNat * sz≤dt.length * sz),hAA,hDD]
        rw [List.append_assoc,List.take_append,List.take_of_length_le (by omega),List.take_append,List.take_of_length_le (by omega),← List.append_assoc]
        congr 2
        omega
      rw [e1]
      exact Els.step k3.h1 k3.mono _ _ hset
end
section
variable {P:Program} {N n0:Nat} {fx:Fx} {its its':List Item} {κ:List Conc} {w w0:World} {tt:TT} {env:Env'} {l:Env} {d:Option Nat} {t:TypeId} {ps:String} {af:Array Edge} {g:Option (Nat×Bool)} {U0:Nat→Prop} {X0:List (Option Nat)} {L:List (Option Nat)}
inductive StrV (its:List Item) (s:List Int):SV→Prop
  | t {j:Nat} (h:its[j]? = some (.str s)):StrV its s (vt j)
  | c {b:ByteArray} (h:strOf b=s):StrV its s (.c (.v (.string b)))
end
section
variable {P:Program} {N n0:Nat} {fx:Fx} {its its':List Item} {itsK:KI} {κ1:List Conc} {env:Env'} {tt:TT} {ops:Array Oper} {Kn:Act→World→Prop} {Ke:Nat→Act→World→Prop} {Kr:Act→World→Prop} {bs:List Bool} {fuel:Nat} {rest:List Oper}
theorem SW.f {ks:KB} {d:Nat} {oi:Oper} {v:SV} (D:DK ks itsK κ1) (i:Nat) (bs':List Bool) (hi:ops[i]? = some oi) (hg:oi.guard=none) (hd:oi.dst=some d) (he:Eff P N n0 fx env its oi (some v) its')
    (hk:SD P ops Kn ks itsK κ1 fuel bs' N n0 fx ((d,v)::env) its') (hN:(Nat.blt d N&&v.lt its'.length)=true:=by kernel_rfl) (hb:bs.set i true=bs':=by rfl) (hK:mkQ ks bs' its'=slQ ks itsK bs':=by kernel_rfl):SW P ops Kn ks itsK κ1 fuel bs N n0 fx env its i:=SW.eff D hi (.inl hg) hd he hN hb hK hk
theorem SW.v {ks:KB} {d:Nat} {oi:Oper} (D:DK ks itsK κ1) (i:Nat) (v:SV) (bs':List Bool) (hi:ops[i]? = some oi) (hg:oi.guard=none) (hd:oi.dst=some d) (he:Eff P N n0 fx env its oi (some v) its')
    (hk:SD P ops Kn ks itsK κ1 fuel bs' N n0 fx ((d,v)::env) its') (hN:(Nat.blt d N&&v.lt its'.length)=true:=by kernel_rfl) (hb:bs.set i true=bs':=by rfl) (hK:mkQ ks bs' its'=slQ ks itsK bs':=by kernel_rfl):SW P ops Kn ks itsK κ1 fuel bs N n0 fx env its i:=SW.eff D hi (.inl hg) hd he hN hb hK hk
theorem SW.w (htt:TTOk P tt) {ks:KB} {d:Nat} {oi:Oper} (D:DK ks itsK κ1) (i:Nat) (v:SV) (bs':List Bool) (hk:SD P ops Kn ks itsK κ1 fuel bs' N n0 fx ((d,v)::env) its) (hi:ops[i]? = some oi:=by rfl) (hg:oi.guard=none:=by rfl) (hd:oi.dst=some d:=by rfl) (hv:sv1 tt (fun _=>true) its (evS env) oi.op=some v:=by kernel_rfl)
    (hN:(Nat.blt d N&&v.lt its.length)=true:=by kernel_rfl) (hb:bs.set i true=bs':=by rfl) (hK:mkQ ks bs' its=slQ ks itsK bs':=by kernel_rfl):SW P ops Kn ks itsK κ1 fuel bs N n0 fx env its i:=SW.eff D hi (.inl hg) hd (e_val htt hv) hN hb hK hk
theorem SD.t {ks:KB} (htt:TTOk P tt) (D:DK ks itsK κ1) (is:List Nat) (bs':List Bool) (env':Env') {fuel':Nat} (hk:SD P ops Kn ks itsK κ1 fuel' bs' N n0 fx env' its) (hf:fuel=fuel'+is.length:=by rfl) (hsel:Region.noSelect ops=true:=by kernel_rfl) (hK:mkQ ks bs its=slQ ks itsK bs:=by kernel_rfl)
    (h:takeT N tt [] ks.2.2 itsK its.length ops is [] bs env (env'.map (·.1))=some (bs',env',[],[]):=by kernel_rfl):SD P ops Kn ks itsK κ1 fuel bs N n0 fx env its:=SD.tk5 htt D [] kn0 is [] [] bs' env' hf hsel hK h hk
theorem SL.f {d:Nat} {op:Op} {t:TypeId} {ps:String} {af:Array Edge} {v:SV} (h:Eff P N n0 fx env its ⟨some d,op,t,ps,af,none⟩ (some v) its') (hk:SL P ops rest Kn N n0 fx ((d,v)::env) its') (hd:Nat.blt d N=true:=by rfl) (hv:v.lt its'.length=true:=by kernel_rfl):SL P ops (⟨some d,op,t,ps,af,none⟩::rest) Kn N n0 fx env its:=SL.eff h hd hv hk
theorem A.t {a:Act} {w:World} {env':Env'} (h:A N n0 fx env its a w) (js:List Jx) (e:(renE js env',renIs js its',vwB n0 its.length js env' its' (lkEs env env') (srcs its js its'))=(lkEs env env',srcs its js its',true):=by kernel_rfl):A N n0 fx env' its' a w:=h.at e
theorem SC.q {fn:Func} {rs:SV} (htt:TTOk P tt) (js:List Jx) (e:((renS js rs,(renS js rs).isSome),renIs js its',vwB n0 its.length js [(0,rs)] its' (some []) (srcs its js its'))=(((resS tt env its fn.results.toList).bind retS,true),srcs its js its',true):=by kernel_rfl):SC P .ret Kn Ke (RetE P fn n0 fx rs its') N n0 fx env its:=SC.re htt e
theorem SC.j {c:Operand} {x y:Code} {α:Type} {e:Bool} {X Y:Option α} {r:α} (hp:(if e=true then X else Y)=some r) (ht:X=some r→SC P x Kn Ke Kr N n0 fx env its) (hf:Y=some r→SC P y Kn Ke Kr N n0 fx env its) (hc:evS env c=some (vb e):=by rfl):SC P (.cond c x y) Kn Ke Kr N n0 fx env its:=SC.if' hc hp ht hf
theorem SD.w {ks:KB} {env':Env'} (D:DK ks itsK κ1) (js:List Jx) (hk:SD P ops Kn ks itsK κ1 fuel bs N n0 fx env' its') (e:(preB itsK.1.length js,renE js env',renIs js its',vwB n0 its.length js env' its' (lkEs env env') (srcs its js its'))=(true,lkEs env env',srcs its js its',true):=by kernel_rfl):SD P ops Kn ks itsK κ1 fuel bs N n0 fx env its:=SD.view D js hk e
theorem bB (b:Bool):b=true∨b=false:=Bool.eq_false_or_eq_true b
theorem SL.m (htt:TTOk P tt) (k:Nat) (env':Env') (hk:SL P ops (rest.drop k) Kn N n0 fx env' its) (h:simT N tt (fun _=>true) ops (rest.take k) [] env its (env'.map (·.1))=some (env',its,[],[]):=by kernel_rfl):SL P ops rest Kn N n0 fx env its:=SL.sim htt k env' [] [] [] h hk
theorem SC.m (htt:TTOk P tt) {id:Nat} {os:List Oper} {y:Code} (env':Env') (hk:SC P y Kn Ke Kr N n0 fx env' its) (h:simT N tt (fun _=>true) os.toArray os [] env its (env'.map (·.1))=some (env',its,[],[]):=by kernel_rfl):SC P (.seq (.region id os.toArray false) y) Kn Ke Kr N n0 fx env its:=SC.r htt env' [] [] [] h hk
theorem SC.s {id:Nat} {os:List Oper} {y:Code} (h:SL P os.toArray os (fun a w=>wp3 P fx.px y Kn Ke Kr a w) N n0 fx env its):SC P (.seq (.region id os.toArray false) y) Kn Ke Kr N n0 fx env its:=SC.seq (SC.reg h)
end
end V
end Go.Proofs.YtbgfhaahhdnogaaGreat
