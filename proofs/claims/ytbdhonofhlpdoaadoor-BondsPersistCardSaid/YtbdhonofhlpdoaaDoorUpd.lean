/- An element of a row of the call's own is written. -/
import Derived.Test.YtbdhonofhlpdoaaDoorNil
import Derived.Lib.ConvBytes
import Derived.KernelRfl
namespace Go.Proofs.YtbdhonofhlpdoaaDoor
namespace V
def bm:Nat→Nat→List Bool
  | 0,_=>[]
  | k+1,n=>(n % 2 == 1)::bm k (n / 2)
theorem K {p:Prop} (h:p:=by kernel_rfl):p:=h
abbrev J (x:Int):SV:=vi .i64 x
def gsF:Nat→Nat→List Jx
  | 0,_=>[]
  | n+1,i=>.g i::gsF n (i+1)
abbrev gs (n:Nat):List Jx:=gsF n 0
abbrev I:Bool:=true
abbrev O:Bool:=false
section
variable {P:Program} {N n0:Nat} {fx:Fx} {its its':List Item} {κ:List Conc} {w:World} {tt:TT} {env:Env'}
theorem kl_any:(kl its).any Item.ow=false:=by
  rw [List.any_eq_false]
  intro it hit
  rw [kl_ow it hit]
  exact Bool.false_ne_true
end
section
variable {P:Program} {N n0:Nat} {fx:Fx} {its its':List Item} {κ:List Conc} {w w0:World} {tt:TT} {env:Env'} {l:Env} {t:TypeId} {ps:String} {af:Array Edge} {g:Option (Nat×Bool)} {U0:Nat→Prop} {X0:List (Option Nat)} {L:List (Option Nat)}
theorem rs_storeF {q0:Nat} {α:Type} {ty E:TypeId} {sz n:Nat} {x y:Operand} {iv:Int} {b i c o:Nat} {v:Value} {vs es:List Value} {R:RT α} [GRep R] {dt dt':List α} {e:α} (h2:∀w,(sizeOf ty).run P w = .ok n w) (hx:ev l x=some (.pointer (some ⟨b,q0+(iv.toNat * sz+o),none⟩))) (hy:ev l y=some v) (hvs:v.cells=vs.toArray) (hn:vs.length=n) (hes:es.length=sz) (ho:o+n≤sz)
    (hcur:∀k u,es[k]? = some u→w.cell? ⟨b,q0+(iv.toNat * sz+k),none⟩=some u)
    (h:Own sz E R (Mu U0 L) w (some ⟨b,q0,none⟩) c dt) (hr:R (Mu U0 L) w (es.take o++vs++es.drop (o+n)) e) (hi:upd dt iv e=some dt') (hL:L[i]? = some (some b)) (C:Ctx U0 X0 w0 L w) :
    RunSK P N l ⟨none,.store ty x y,t,ps,af,g⟩ w (OwnTurned sz E R U0 X0 w0 L w (some ⟨b,q0,none⟩) c dt'):=fun a ha=>by
  obtain⟨h0,h1,rfl⟩:=upd_some hi
  rcases own_form h with ⟨hA,_⟩ | ⟨b',pre,cur,post,fz,hA,hfz,hg,hle,hm,hsz,he⟩
  · cases hA
  · injection hA with hA
    injection hA with hA hA2
    subst hA
    subst hA2
    have hk:iv.toNat<dt.length:=by omega
    have hfit0:iv.toNat * sz+sz≤cur.length:=by
      rw [hsz,← Nat.succ_mul]
      exact Nat.mul_le_mul_right _ (by omega)
    have h1c:=GRep.one hr
    have hst:=run_storeCells_z P b (pre.length+(iv.toNat * sz+o)) E fz vs 0 _ w hg (by simpa using hfz) (by simp only [List.size_toArray,List.length_append]; omega) (fun u hu=>h1c u (by simp [hu]))
    simp only [Nat.add_zero] at hst
    rw [row_put (by omega)] at hst
    have hseg:cur=cur.take (iv.toNat * sz)++es++cur.drop (iv.toNat * sz+sz):=by
      have he2:(cur.drop (iv.toNat * sz)).take sz=es:=by
        refine List.ext_getElem? fun k=>?_
        by_cases hk2:k<sz
        · have hke:es[k]? = some (es[k]'(by omega)):=List.getElem?_eq_getElem (by omega)
          have:=hcur k _ hke
          simp only [World.cell?,hg] at this
          rw [List.getElem?_take,if_pos hk2,List.getElem?_drop,hke,← this,← row_get (pre:=pre) (post:=post) (by omega)]
          simp
        · rw [List.getElem?_eq_none (by rw [List.length_take]; omega),List.getElem?_eq_none (by omega)]
      rw [← he2,List.append_assoc,← List.drop_drop,List.take_append_drop,List.take_append_drop]
    have hA:(cur.take (iv.toNat * sz)).length=iv.toNat * sz:=by
      rw [List.length_take]
      omega
    generalize hAA:cur.take (iv.toNat * sz)=A0 at hseg hA
    generalize hDD:cur.drop (iv.toNat * sz+sz)=D0 at hseg
    have hrow:cur.take (iv.toNat * sz+o)++vs++cur.drop (iv.toNat * sz+o+vs.length)=A0++(es.take o++vs++es.drop (o+n))++D0:=by
      have q1:cur.take (iv.toNat * sz+o)=A0++es.take o:=by
        rw [hseg,← hA,List.append_assoc,List.take_append,Nat.add_sub_cancel_left,List.take_of_length_le (by omega),List.take_append,show o - es.length=0 from by omega,List.take_zero,List.append_nil]
      have q2:cur.drop (iv.toNat * sz+o+vs.length)=es.drop (o+n)++D0:=by
        rw [hseg,← hA,List.append_assoc,Nat.add_assoc,List.drop_append,List.drop_of_length_le (by omega),List.nil_append,Nat.add_sub_cancel_left,hn,List.drop_append,show o+n - es.length=0 from by omega,List.drop_zero]
      rw [q1,q2]
      simp only [List.append_assoc]
    have hvl:(es.take o++vs++es.drop (o+n)).length=sz:=by
      rw [List.length_append,List.length_append,List.length_take,List.length_drop]
      omega
    generalize es.take o++vs++es.drop (o+n)=vs1 at hr hrow hvl
    obtain⟨k1,k2,k3⟩:=setRow_turnz C hL hg (cs':=pre++(A0++vs1++D0)++post)
    have hrowlen:(A0++vs1++D0).length=cur.length:=by
      have:=congrArg List.length hseg
      rw [List.length_append,List.length_append] at this
      rw [List.length_append,List.length_append]
      omega
    refine ⟨_,?_,?_,k2,k3⟩
    · simp only [execOp,ha.ev hx,ha.ev hy,Instr.storeAt,Instr.sureAddr,storeVar,Sem.run_bind,Sem.run_pure,Result.andThen_ok,h2,hvs,List.size_toArray,hn]
      rw [hn] at hrow
      simp [hst,hn,hrow]
    · refine own_mk2 (by rw [row_len hrowlen]; exact hfz) k1 (by simpa using hle) hm (by rw [hrowlen]; exact hsz) ?_
      have hset:=Els.set dt _ iv.toNat e vs1 he hk hvl hr
      have e1:(A0++vs1++D0).take ((dt.set iv.toNat e).length * sz) =
          (cur.take (dt.length * sz)).take (iv.toNat * sz)++vs1++(cur.take (dt.length * sz)).drop (iv.toNat * sz+sz):=by
        have hk2:iv.toNat * sz+sz≤dt.length * sz:=by rw [← Nat.succ_mul]; exact Nat.mul_le_mul_right _ (by omega)
        rw [List.length_set,List.take_take,List.drop_take,Nat.min_eq_left (by omega:iv.toNat * sz≤dt.length * sz),hAA,hDD]
        rw [List.append_assoc,List.take_append,List.take_of_length_le (by omega),List.take_append,List.take_of_length_le (by omega),← List.append_assoc]
        congr 2
        omega
      rw [e1]
      exact Els.step k3.h1 k3.mono _ _ hset
theorem e_updf {α:Type} {sz:Nat} {E:TypeId} {R:RT α} [GRep R] {l l':List α} {e:α} (htt:TTOk P tt) {ty:TypeId} {x y:Operand} {i j o:Nat} {iv:Int} {v:SV} {cs0 cs cs1:List Cell}
    (hx:evS env x=some (vp j o)) (hj:its[j]? = some (.elt (some (i,iv)) true cs0)) (hi:its[i]? = some (.own sz E R l)) (hki:(kl its)[i]? = some (.own sz E R l)) (hy:evS env y=some v) (hv:v.cells its=some cs) (h1:cs0.take o++cs++cs0.drop (o+cs.length)=cs1) (hc:Clo its R cs1 e)
    (hl:(Nat.beq cs0.length sz&&Nat.ble (o+cs.length) sz)=true) (hT:(match lkT ty tt with
      | some ti=>Nat.beq ti.size cs.length
      | none=>false)=true) (hu:upd l iv e=some l') :
    Eff P N n0 fx env its ⟨none,.store ty x y,t,ps,af,g⟩ none ((kl its).set i (.own sz E R l')):=fun κ w S a ha=>by
  subst h1
  simp only [Bool.and_eq_true,Nat.beq_eq] at hl
  obtain⟨hl1,hl2⟩:=hl
  have hl2:=Nat.le_of_ble_eq_true hl2
  split at hT
  · rename_i ti ht
    simp only [Nat.beq_eq] at hT
    obtain⟨c,hcj,hokj⟩:=S.conc hj
    cases c with
    | a ad=>
      obtain⟨hat,_,A,n,c,hci,had,h0,h1⟩:=hokj
      obtain⟨c',hci',hoki⟩:=S.conc hi
      rw [hci] at hci'
      injection hci' with hci'
      subst hci'
      obtain⟨hn,ho⟩:=hoki
      rcases own_form ho with ⟨hA,_⟩ | ⟨b,pre,cur,post,fz,hA,_⟩
      · cases hA
      · injection hA with hA
        subst hA
        have had2:ad=⟨b,pre.length+iv.toNat * sz,none⟩:=by rw [had,hl1,add_lit]
        subst had2
        have hx':=evS_den (κ:=κ) hx
        simp only [SV.den,Cell.den,hcj] at hx'
        have hx2:ev (denE κ env) x=some (.pointer (some ⟨b,pre.length+(iv.toNat * sz+o),none⟩)):=by
          rw [hx',add_lit,Nat.add_assoc]
        have hL:(Lof its κ)[i]? = some (some b):=Lof_get hi hci
        have hcc:=hc S
        rw [List.map_append,List.map_append,List.map_take,List.map_drop] at hcc
        have hrun:=rs_storeF (P:=P) (N:=N) (t:=t) (ps:=ps) (af:=af) (g:=g) (o:=o) (n:=cs.length) (es:=cs0.map (Cell.den κ)) (fun w=>by have:=(htt.get ht).size w; rw [hT] at this; exact this) hx2 (evS_den hy) (cells_den S.kno hv) (by simp) (by simpa using hl1) hl2 (fun k u hu=>by
          have:=hat.2 k u hu
          rw [add_lit,Nat.add_assoc] at this
          exact this) ho hcc hu hL S.ctx
        obtain⟨w',hr,hst⟩:=hrun a ha
        refine .inr (.inl ⟨w',hr,⟨[],⟨fun z hz=>(by cases hz),?_⟩⟩⟩)
        rw [List.append_nil]
        have hlen:l'.length=l.length:=by obtain⟨_,_,rfl⟩:=upd_some hu; simp
        have hst':OwnTurned sz E R fx.U0 fx.X0 fx.w0 (Lof (kl its) κ) w (some ⟨b,pre.length,none⟩) c l' w':=by rw [Lof_kl]; exact hst
        exact ownTurned_st S.kill kl_any hki hci hn hlen hst'
    | _=>exact hokj.elim
  · cases hT
end
section
variable {P:Program} {N n0:Nat} {fx:Fx} {its its':List Item} {κ:List Conc} {w w0:World} {tt:TT} {env:Env'} {l:Env} {d:Option Nat} {t:TypeId} {ps:String} {af:Array Edge} {g:Option (Nat×Bool)} {U0:Nat→Prop} {X0:List (Option Nat)} {L:List (Option Nat)}
inductive StrV (its:List Item) (s:List Int):SV→Prop
  | t {j:Nat} (h:its[j]? = some (.str s)):StrV its s (vt j)
  | c {b:ByteArray} (h:strOf b=s):StrV its s (.c (.v (.string b)))
end
end V
end Go.Proofs.YtbdhonofhlpdoaaDoor
