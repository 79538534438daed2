/- Arrays that are variables of the call's own; loops whose rou -/
import Derived.Test.YtoahakdkgefgiaaGreatUpd
import Derived.LoopN
import Derived.ChangeKeysEq
namespace Go.Proofs.YtoahakdkgefgiaaGreat
namespace V
section
variable {P:Program} {N n0:Nat} {fx:Fx} {its its':List Item} {κ:List Conc} {w:World} {env env':Env'} {tt:TT} {Kn:Act→World→Prop} {Ke:Nat→Act→World→Prop} {Kr:Act→World→Prop}
def Rd (P:Program) (px:Value→World→Prop) (c:Code) (Ke:Nat→Act→World→Prop) (Kr:Act→World→Prop) (m:Nat) (a:Act) (w:World):Prop:=Code.rounds P c (post3 px (fun _ _=>False) Ke Kr) m a w
theorem SC.unr {c:Code} (m:Nat) (h:∀a w,A N n0 fx env its a w→Rd P fx.px c Ke Kr m a w):SC P (.loop c) Kn Ke Kr N n0 fx env its:=fun κ w S a ha=>
  wp_mono (wp_loop_rounds m (h a w ⟨κ,ha,S⟩)) fun e a w hq=>by cases e <;> first | exact hq.elim | exact hq
theorem A.rd {c:Code} {m:Nat} {a:Act} (h:A N n0 fx env its a w) (hc:SC P c (Rd P fx.px c Ke Kr m) Ke Kr N n0 fx env its):Rd P fx.px c Ke Kr (m+1) a w:=by
  obtain⟨κ,h1,h2⟩:=h
  refine wp_mono (hc κ w h2 a h1) fun e a w hq=>?_
  cases e <;> exact hq
theorem Rd.lay {px:Value→World→Prop} {c:Code} {m:Nat} {Q0:Act→World→Prop} (m':Nat) (Q:Act→World→Prop) (h:∀a w,Q a w→Rd P px c Ke Kr m' a w) (k:(∀a w,Q a w→Rd P px c Ke Kr m' a w)→∀a w,Q0 a w→Rd P px c Ke Kr m a w):∀a w,Q0 a w→Rd P px c Ke Kr m a w:=k h
def arrI (tt:TT) (ty:TypeId) (iv:Int) (o:Nat):Option Nat:=match lkT ty tt with
  | some ⟨.array n e,_,_,_,_⟩=>(match lkT e tt with
    | some te=>(match decide (0≤iv),decide (iv<n) with
      | true,true=>some (o+iv.toNat * te.size)
      | _,_=>none)
    | none=>none)
  | _=>none
theorem e_ixa (htt:TTOk P tt) {d:Option Nat} {t:TypeId} {ps:String} {af:Array Edge} {g:Option (Nat×Bool)} {ty T:TypeId} {x y:Operand} {k:IntKind} {iv:Int} {i o off:Nat} {cs:List Cell}
    (hx:evS env x=some (vp i o)) (hy:evS env y=some (vi k iv)) (hi:its[i]? = some (.blk T cs)) (ho:arrI tt ty iv o=some off):Eff P N n0 fx env its ⟨d,.indexAddr ty x y,t,ps,af,g⟩ (some (vp i off)) its:=fun κ w S a ha=>by
  unfold arrI at ho
  split at ho
  · rename_i n e _ _ _ _ ht
    split at ho
    · rename_i te hte
      split at ho
      · rename_i h0 h1
        injection ho with ho
        have h0:=of_decide_eq_true h0
        have h1:=of_decide_eq_true h1
        obtain⟨c,hc,hok⟩:=S.conc hi
        cases c with
        | b q=>
          have hx':=eD (κ:=κ) hx
          have hy':=eD (κ:=κ) hy
          simp only [SV.den,Cell.den,hc] at hx' hy'
          have hrun:(Instr.indexAt ty (.pointer (some ⟨q,o,none⟩)) (.int k iv)).run P w = .ok (.pointer (some ⟨q,off,none⟩)) w:=by
            simp [Instr.indexAt,Instr.sureAddr,asIntOf,run_underlying (htt.get ht).und,h0,h1,(htt.get hte).size,Addr.add_lit,ho]
          refine .inl ⟨_,w,?_,[],fun z hz=>(by injection hz with hz; subst hz; rfl),by rw [List.append_nil]; exact S⟩
          simp only [execOp,ha.ev hx',ha.ev hy',Sem.run_bind,hrun,Result.andThen_ok,SV.den,Cell.den,List.append_nil,hc]
          rfl
        | _=>exact hok.elim
      · cases ho
    · cases ho
  · cases ho
theorem pre_gone {i:Nat}:Pre n0 fx env its (its.set i .gone):=fun κ w S=>by
  refine ⟨[],?_⟩
  rw [List.append_nil]
  have hL:∀(j b:Nat),(Lof (its.set i .gone) κ)[j]? = some (some b)→(Lof its κ)[j]? = some (some b):=by
    intro j b h
    obtain⟨it,c,h1,h2,h3⟩:=Lof_inv h
    by_cases e:j=i
    · subst e
      rw [List.getElem?_set] at h1
      split at h1
      · split at h1
        · injection h1 with h1; subst h1; cases c <;> cases h3
        · cases h1
      · rw [Lof_get h1 h2,h3]
    · rw [List.getElem?_set_ne (fun h=>e h.symm)] at h1
      rw [Lof_get h1 h2,h3]
  have hmem:∀b,some b∈Lof (its.set i .gone) κ→some b∈Lof its κ:=by
    intro b hb
    obtain⟨j,hj⟩:=List.getElem?_of_mem hb
    exact List.mem_of_getElem? (hL j b hj)
  refine ⟨by simp [S.len],S.pre,S.n0,by simpa using S.sce,?_,S.ctx.of id hL (fun _ _ _ _ _ e=>e),fun j it c' h1 h2=>?_⟩
  · unfold scI
    rw [List.length_set,List.all_eq_true]
    intro it hit
    have hs:=S.sci
    unfold scI at hs
    rw [List.all_eq_true] at hs
    rcases List.mem_or_eq_of_mem_set hit with h | h
    · exact hs _ h
    · subst h; rfl
  · by_cases e:j=i
    · subst e
      rw [List.getElem?_set] at h1
      split at h1
      · split at h1
        · injection h1 with h1; subst h1; cases c' <;> trivial
        · cases h1
      · rename_i hne; exact absurd rfl hne
    · rw [List.getElem?_set_ne (fun h=>e h.symm)] at h1
      have hlt:it.lt κ.length=true:=by
        have:=S.sci
        unfold scI at this
        rw [List.all_eq_true] at this
        rw [S.len]
        exact this _ (List.mem_of_getElem? h1)
      have h4:=OK.ext (κx:=[]) hlt (Mu.weaken hmem) (S.ok j it c' h1 h2)
      rwa [List.append_nil] at h4
def arrL (cs:List Cell):Option (List Int):=cs.mapM fun c=>match c with
  | .v (.int .u8 x)=>some x
  | _=>none
theorem arrL_els:∀{cs:List Cell} {l:List Int} {κ:List Conc} {U:Nat→Prop} {w:World},arrL cs=some l→Els 1 (RInt .u8) U w (cs.map (Cell.den κ)) l
  | [],l,κ,U,w,h=>by simp [arrL] at h; subst h; rfl
  | c::cs,l,κ,U,w,h=>by
    unfold arrL at h
    rw [List.mapM_cons] at h
    simp only [bind,Option.bind_eq_some_iff,pure,Option.some.injEq] at h
    obtain⟨x,hx,l',hl,rfl⟩:=h
    split at hx
    · injection hx with hx; subst hx
      exact⟨[.int .u8 _],_,rfl,rfl,rfl,arrL_els hl⟩
    · cases hx
theorem arrL_len:∀{cs:List Cell} {l:List Int},arrL cs=some l→l.length=cs.length
  | [],l,h=>by simp [arrL] at h; subst h; rfl
  | c::cs,l,h=>by
    unfold arrL at h
    rw [List.mapM_cons] at h
    simp only [bind,Option.bind_eq_some_iff,pure,Option.some.injEq] at h
    obtain⟨x,hx,l',hl,rfl⟩:=h
    rw [List.length_cons,List.length_cons,arrL_len hl]
def arrN (tt:TT) (ty:TypeId) (cs:List Cell):Bool:=match lkT ty tt with
  | some ⟨.array n e,_,_,_,_⟩=>(match lkT e tt with
    | some ⟨.int .u8,false,1,_,_⟩=>Nat.beq n cs.length&&Nat.ble n 1000000
    | _=>false)
  | _=>false
theorem e_arrs (htt:TTOk P tt) {d:Option Nat} {t:TypeId} {ps:String} {af:Array Edge} {g:Option (Nat×Bool)} {ty T:TypeId} {x:Operand} {i:Nat} {cs:List Cell} {l:List Int}
    (hx:evS env x=some (vp i 0)) (hi:its[i]? = some (.blk T cs)) (hl:arrL cs=some l) (hn:arrN tt ty cs=true):Eff P N n0 fx env its ⟨d,.slice ty x none none none,t,ps,af,g⟩ (some (vs its.length)) (its.set i .gone++[.rd 1 (RInt .u8) l]):=fun κ w S a ha=>by
  unfold arrN at hn
  split at hn
  · rename_i n e _ _ _ _ ht
    split at hn
    · rename_i hte
      simp only [Bool.and_eq_true] at hn
      obtain⟨hn1,hn2⟩:=hn
      have hn1:=Nat.eq_of_beq_eq_true hn1
      have hn2:=Nat.le_of_ble_eq_true hn2
      obtain⟨c,hc,hok⟩:=S.conc hi
      cases c with
      | b q=>
        have hx':=eD (κ:=κ) hx
        simp only [SV.den,Cell.den,hc] at hx'
        have hsz:=(htt.get hte).size w
        simp only at hsz
        have hrun:(Instr.sliceAt ty (.pointer (some ⟨q,0,none⟩)) none none none).run P w = .ok (.slice (some ⟨q,0,none⟩) n n) w:=by
          simp [Instr.sliceAt,Instr.sureAddr,run_underlying (htt.get ht).und,Instr.sliceBounds,hsz,Addr.add_lit]
        obtain⟨κx,S1⟩:=pre_gone (i:=i) κ w S
        have hκx:κx=[]:=by
          have h1:=S1.len
          rw [List.length_append,List.length_set,S.len] at h1
          exact List.eq_nil_of_length_eq_zero (by omega)
        subst hκx
        rw [List.append_nil] at S1
        have hll:=arrL_len hl
        have hLq:=Lof_get hi hc
        have hnm:¬ Mu fx.U0 (Lof (its.set i .gone) κ) q:=by
          rintro (h | h)
          · exact (S.ctx.live q (List.mem_of_getElem? hLq)).2.1 h
          · obtain⟨j,hj⟩:=List.getElem?_of_mem h
            obtain⟨it,c',h1,h2,h3⟩:=Lof_inv hj
            by_cases e:j=i
            · subst e
              rw [List.getElem?_set] at h1
              split at h1
              · split at h1
                · injection h1 with h1; subst h1; cases c' <;> cases h3
                · cases h1
              · rename_i hne; exact absurd rfl hne
            · rw [List.getElem?_set_ne (fun h=>e h.symm)] at h1
              have h4:=Lof_get h1 h2
              rw [h3] at h4
              exact S.ctx.sep j i q e h4 hLq
        refine .inl ⟨.slice (some ⟨q,0,none⟩) l.length l.length,w,?_,[.r (some ⟨q,0,none⟩) l.length l.length],fun z hz=>?_,S1.more rfl (one_get (P:=fun (it:Item) (c:Conc)=>own1 it c=none) rfl) rfl (one_get (P:=fun (it:Item) (c:Conc)=>OK _ _ w it c) ⟨rfl,Nat.le_refl _,?_,cs.map (Cell.den κ),arrL_els hl,fun j u hu=>⟨_,rfl,hnm,?_⟩⟩)⟩
        · simp only [execOp,ha.ev hx',Sem.run_bind,Option.map_none,hrun,Result.andThen_ok,hll,← hn1]
          rfl
        · injection hz with hz
          subst hz
          simp only [SV.den,Cell.den]
          rw [List.getElem?_append_right (by rw [S.len]; exact Nat.le_refl _),S.len]
          simp [hll,hn1]
        · simp only [maxLen]; omega
        · have:=hok.cell j
          rw [Addr.add_lit,Nat.zero_add,this]
          exact hu
      | _=>exact hok.elim
    · cases hn
  · cases hn
def eqL:List Cell→List Cell→Option (List Bool)
  | [],[]=>some []
  | .v (.int k a)::cs,.v (.int k' b)::ds=>(match keq k k',eqL cs ds with
    | true,some r=>some ((a == b)::r)
    | _,_=>none)
  | _,_=>none
def arrE (tt:TT) (ty:TypeId) (cs:List Cell):Bool:=match lkT ty tt with
  | some ⟨.array n e,_,_,_,_⟩=>(match lkT e tt with
    | some ⟨.int _,false,1,_,_⟩=>Nat.beq n cs.length
    | _=>false)
  | _=>false
theorem eqItems_ok (htt:TTOk P tt) {e:TypeId} {q:IntKind} {z:Option Value} {by_:Nat} (hte:lkT e tt=some ⟨.int q,false,1,z,by_⟩) (D:Nat) {xs ys:Array Value} :
    ∀(cs ds:List Cell) (r:List Bool) (j:Nat),eqL cs ds=some r→(∀i:Nat,(xs.toList.drop j)[i]? = (cs.map (Cell.den κ))[i]?)→(∀i:Nat,(ys.toList.drop j)[i]? = (ds.map (Cell.den κ))[i]?)→
      (Op.eqItems (D+1) e 1 xs ys (List.range' j cs.length)).run P w = .ok (allB r) w
  | [],[],r,j,h,_,_=>by
    simp only [eqL,Option.some.injEq] at h
    subst h
    simp [Op.eqItems,allB]
  | [],_::_,r,j,h,_,_=>by simp [eqL] at h
  | c::cs,[],r,j,h,_,_=>by
    cases c with
    | v x=>cases x <;> simp [eqL] at h
    | _=>simp [eqL] at h
  | c::cs,d::ds,r,j,h,hx,hy=>by
    have key:∃k a b r',c = .v (.int k a)∧d = .v (.int k b)∧eqL cs ds=some r'∧r=(a == b)::r':=by
      unfold eqL at h
      split at h
      · rename_i heq _
        cases heq
      · rename_i k a cs' k' b ds' h1 h2
        injection h1 with h1 h1'
        injection h2 with h2 h2'
        subst h1 h1' h2 h2'
        split at h
        · rename_i r' hk hr
          have:=keq_eq hk
          subst this
          injection h with h
          exact⟨_,a,b,r',rfl,rfl,hr,h.symm⟩
        · cases h
      · cases h
    obtain⟨k,a,b,r',rfl,rfl,hr,rfl⟩:=key
    have gx:xs.toList[j]? = some (.int k a):=by
      have:=hx 0
      simpa [List.getElem?_drop,Cell.den] using this
    have gy:ys.toList[j]? = some (.int k b):=by
      have:=hy 0
      simpa [List.getElem?_drop,Cell.den] using this
    have hp:∀(vs:Array Value) (v:Value),vs.toList[j]? = some v→(part e vs (j * 1)).run P w = .ok v w:=fun vs v hv=>by
      have hA:=(htt.get hte).agg w
      simp only at hA
      unfold part
      have:vs[j]? = some v:=by simpa using hv
      simp [Sem.run_bind,hA,this]
    have ih:=eqItems_ok htt hte D (xs:=xs) (ys:=ys) cs ds r' (j+1) hr (fun i=>by
      have:=hx (i+1)
      simp only [List.getElem?_drop,List.map_cons,List.getElem?_cons_succ] at this ⊢
      rw [← this]
      congr 1
      omega) (fun i=>by
      have:=hy (i+1)
      simp only [List.getElem?_drop,List.map_cons,List.getElem?_cons_succ] at this ⊢
      rw [← this]
      congr 1
      omega)
    rw [List.length_cons,List.range'_succ]
    simp only [Op.eqItems,Sem.run_bind,hp xs _ gx,hp ys _ gy,Result.andThen_ok,run_equalIn_int w D e k q a b (htt.get hte).und,allB_cons]
    cases a == b
    · simp
    · simpa using ih
theorem e_eqa (htt:TTOk P tt) {d:Option Nat} {t:TypeId} {ps:String} {af:Array Edge} {g:Option (Nat×Bool)} {op:BinOp} {ty ty2:TypeId} {x y:Operand} {cs ds:List Cell} (bs:List Bool) (v:Bool) (hx:evS env x=some (.g cs)) (hy:evS env y=some (.g ds)) (hg:P.eqGuardType P.depth ty=false)
    (ha:arrE tt ty cs=true) (he:eqL cs ds=some bs) (hv:(op = .eql∧allB bs=v)∨(op = .neq∧(!allB bs)=v)) :
    Eff P N n0 fx env its ⟨d,.binOp op ty x y ty2,t,ps,af,g⟩ (some (vb v)) its:=fun κ w S a haa=>by
  unfold arrE at ha
  split at ha
  · rename_i n e _ _ _ _ ht
    split at ha
    · rename_i q _ _ hte
      have ha:=Nat.eq_of_beq_eq_true ha
      have hx':=eD (κ:=κ) hx
      have hy':=eD (κ:=κ) hy
      simp only [SV.den] at hx' hy'
      obtain⟨info,z,hinf,hsz,_⟩:=(htt.get hte).info
      have hco:P.cellsOf e=1:=by
        unfold Program.cellsOf
        rw [hinf]
        exact hsz
      have hr:(Op.equalIn (9999+1) ty (.agg (cs.map (Cell.den κ)).toArray) (.agg (ds.map (Cell.den κ)).toArray)).run P w = .ok (allB bs) w:=by
        rw [run_equalIn_array w 9999 _ _ (htt.get ht).und hinf,hco,List.range_eq_range',ha]
        exact eqItems_ok (κ:=κ) htt hte 9998 cs ds bs 0 he (fun i=>by simp) (fun i=>by simp)
      have hguard:∀o:BinOp,(eqGuard o ty x y (Value.agg (cs.map (Cell.den κ)).toArray) (Value.agg (ds.map (Cell.den κ)).toArray)).run P w = .ok () w:=by
        intro o
        unfold eqGuard
        cases o <;> simp [hg,Go.program,Sem.run]
      refine .inl ⟨_,w,?_,[],fun z hz=>(by injection hz with hz; subst hz; rfl),by rw [List.append_nil]; exact S⟩
      rcases hv with ⟨rfl,hv⟩ | ⟨rfl,hv⟩
      · simp only [execOp,haa.ev hx',haa.ev hy',Sem.run_bind,hguard,Result.andThen_ok,binOp,Op.equal,Op.maxDepth,hr,Sem.run_pure]
        rw [hv]
        rfl
      · simp only [execOp,haa.ev hx',haa.ev hy',Sem.run_bind,hguard,Result.andThen_ok,binOp,Op.equal,Op.maxDepth,hr,Sem.run_pure]
        rw [hv]
        rfl
    · cases ha
  · cases ha
end
end V
end Go.Proofs.YtoahakdkgefgiaaGreat
