/-
  Variables of the program; parts of rows.
-/
import Derived.Test.YtladkmnfmpojiaaGreatDoorLh
import Derived.Test.YtladkmnfmpojiaaGreatDoorProg
import Derived.WalkKit
import Derived.Deep.RegionLaw
import Derived.Lib.Walk
import Derived.Lib.SliceRun
namespace Go.Proofs.YtladkmnfmpojiaaGreatDoor
namespace V
section
variable {P : Program}
theorem run_append_room_z (w : World) (t ty e : TypeId) (sz : Nat) (ht : P.underlying t = some (.slice e)) (hs : ∀ w, (sizeOf e).run P w = .ok sz w) (g q n cap : Nat) (cur : Array Value) (fz : Nat × Nat) (hfz : Fz e fz cur.size) (hg : w.heap[g]? = some (.cells cur e fz))
    (a : Addr) (m c : Nat) (news : List Value) (hl : news.length = m * sz) (hnews : ∀ j u, news[j]? = some u → w.cell? (a.add j) = some u) (h1 : ∀ u ∈ news, u.oneCell' = true) (hroom : n + m ≤ cap) (hfit : q + n * sz + news.length ≤ cur.size) :
    (Builtin.append_ #[t, t] ty #[.slice (some ⟨g, q, none⟩) n cap, .slice (some a) m c]).run P w = .ok (.slice (some ⟨g, q, none⟩) (n + m) cap) (w.setRow g (cur.toList.take (q + n * sz) ++ news ++ cur.toList.drop (q + n * sz + news.length)).toArray) := by
  have hf := run_firstCells_some (P := P) w sz m a m c news hl hnews
  have hst := run_storeCells_z P g (q + n * sz) e fz news 0 cur w hg hfz (by simpa using hfit) h1
  simp only [Nat.add_zero] at hst
  simp [Builtin.append_, run_underlying ht, hs, Builtin.lenOf, hroom, hf, Addr.add_lit, hst]
theorem step_append_z {ops : Array Oper} {o : Oper} {a : Act} {w : World} {K : Act → World → Prop} {Q : Exit → Act → World → Prop} {E : Prop}
    (hg : o.guard = none) (s x : Operand) (t : TypeId) (hop : o.op = Op.call { callee := Callee.builtin Builtin.append, args := #[s, x], argTypes := #[t, t] })
    (e : TypeId) (sz : Nat) (ht : P.underlying t = some (.slice e)) (hz : ∀ w, (sizeOf e).run P w = .ok sz w) (b q n cap : Nat) (hs : a.eval s = .slice (some ⟨b, q, none⟩) n cap) (cur : Array Value) (fz : Nat × Nat) (hfz : Fz e fz cur.size) (hb : w.heap[b]? = some (.cells cur e fz))
    (ad : Addr) (m c : Nat) (news : List Value) (hx : a.eval x = .slice (some ad) m c) (hn : news.length = m * sz) (hc : ∀ j u, news[j]? = some u → w.cell? (ad.add j) = some u) (h1c : ∀ u ∈ news, u.oneCell' = true)
    (hroom : n + m ≤ cap) (hfit : q + n * sz + news.length ≤ cur.size)
    (hK : K (a.put o.dst (.slice (some ⟨b, q, none⟩) (n + m) cap)) (w.setRow b (cur.toList.take (q + n * sz) ++ news ++ cur.toList.drop (q + n * sz + news.length)).toArray)) :
    if Region.wanted o (yielded ops a.tmps) = true then Oper.wp P o a w K Q else E := by
  have hw : Region.wanted o (yielded ops a.tmps) = true := by simp [Region.wanted, hg]
  rw [if_pos hw]
  have hrun := run_append_room_z (P := P) w t o.type e sz ht hz b q n cap cur fz hfz hb ad m c news hn hc h1c hroom hfit
  unfold Oper.wp
  have he : (execOp a.eval o).run P w = .ok (.value (.slice (some ⟨b, q, none⟩) (n + m) cap)) (w.setRow b (cur.toList.take (q + n * sz) ++ news ++ cur.toList.drop (q + n * sz + news.length)).toArray) := by
    simp only [execOp, hop, resolve, invoke, builtin, Sem.run_bind, Sem.run_pure, Result.andThen_ok, List.map_toArray, List.map_cons, List.map_nil, hs, hx, hrun]
  rw [he]
  exact hK
theorem run_clear_z (w : World) (t e ty : TypeId) (z : Value) (sz : Nat) (ht : P.underlying t = some (.slice e)) (hv : ∀ w, (zeroValue e).run P w = .ok z w) (hz : z.cells.size = sz) (h1 : ∀ u ∈ z.cells.toList, u.oneCell' = true) (b q k c : Nat) (hk : 0 < k) (cur : Array Value) (fz : Nat × Nat) (hfz : Fz e fz cur.size) (hg : w.heap[b]? = some (.cells cur e fz)) (hfit : q + k * sz ≤ cur.size) :
    (Builtin.clear_ #[t] ty #[.slice (some ⟨b, q, none⟩) k c]).run P w = .ok (.tuple #[]) (w.setRow b (cur.toList.take q ++ (Builtin.zeroCells z.cells k).toList ++ cur.toList.drop (q + k * sz)).toArray) := by
  have hlen : (Builtin.zeroCells z.cells k).toList.length = k * sz := by rw [Array.length_toList, size_zeroCells, hz]
  have hone : ∀ u ∈ (Builtin.zeroCells z.cells k).toList, u.oneCell' = true := by
    intro u hu
    unfold Builtin.zeroCells at hu
    simp only [Array.toList_map, List.mem_map] at hu
    obtain ⟨q, hq, rfl⟩ := hu
    have hq2 : q < k * z.cells.size := by simpa using hq
    have hpos : 0 < z.cells.size := by
      rcases Nat.eq_zero_or_pos z.cells.size with h | h
      · rw [h] at hq2; simp at hq2
      · exact h
    have hlt : q % z.cells.size < z.cells.size := Nat.mod_lt _ hpos
    rw [getElem!_pos z.cells _ hlt]
    exact h1 _ (by simp)
  have hst := run_storeCells_z P b q e fz (Builtin.zeroCells z.cells k).toList 0 cur w hg hfz (by rw [hlen]; simpa using hfit) hone
  simp only [Nat.add_zero] at hst
  rw [hlen] at hst
  obtain ⟨m, rfl⟩ : ∃ m, k = m + 1 := ⟨k - 1, by omega⟩
  simp [Builtin.clear_, run_underlying ht, hv, hst]
end
theorem spec_row1 {P : Program} {f : FuncId} {α : Type} {sz : Nat} {E : TypeId} {R : RT α} [GRep R] {l l' : List α} {vals : List Value}
    (h : ∀ (U0 : Nat → Prop) (w : World) (A : Option Addr) (c : Nat), Own sz E R (Mu U0 [ob A]) w A c l → Ctx U0 [ob A] w [ob A] w → Calls P f (Value.slice A l.length c :: vals).toArray w fun e w' => ∃ A' c', e = .returned (.slice A' l'.length c') ∧ Own sz E R (Mu U0 [ob A']) w' A' c' l' ∧ Ctx U0 [ob A] w [ob A'] w') :
    Spec P f (vs 0 :: vals.map fun v => SV.c (.v v)) [.own sz E R l] (vs 1) [.gone, .own sz E R l'] := fun U0 κ w gl S => by
  obtain ⟨c, hc, hok⟩ := S.conc (i := 0) rfl
  have hlen : κ.length = 1 := S.len
  match κ, hlen, hc, gl, S with
  | [c0], _, hc, gl, S =>
    simp at hc
    subst hc
    cases c0 with
    | r A n c =>
      obtain ⟨hn, ho⟩ := hok
      subst hn
      have hL : Lof [Item.own sz E R l] [Conc.r A l.length c] = [ob A] := rfl
      have hC : Ctx U0 [ob A] w [ob A] w := S.ctx
      have ha : ((vs 0 :: vals.map fun v => SV.c (.v v)).map (SV.den [Conc.r A l.length c])).toArray = (Value.slice A l.length c :: vals).toArray := by
        rw [List.map_cons, List.map_map]
        have : (SV.den [Conc.r A l.length c] ∘ fun v => SV.c (.v v)) = id := rfl
        rw [this, List.map_id]
        rfl
      rw [ha]
      refine (h U0 w A c ho hC).mono ?_
      rintro e w' ⟨A', c', rfl, ho', C⟩
      refine ⟨[.r A' l'.length c'], rfl, ⟨rfl, rfl, by simp, rfl, rfl, C.addNone.1, ?_⟩⟩
      intro i it cc h1 h2
      match i with
      | 0 =>
        simp at h1 h2
        subst h1
        subst h2
        exact trivial
      | 1 =>
        simp at h1 h2
        subst h1
        subst h2
        refine ⟨rfl, ho'.mu fun b hb => ?_⟩
        rcases hb with hb | hb
        · exact .inl hb
        · exact .inr (by
            have hb2 : some b ∈ [none, ob A'] := hb
            simpa using hb2)
      | i + 2 => simp at h1
    | _ => exact hok.elim
end V
end Go.Proofs.YtladkmnfmpojiaaGreatDoor
namespace Go.Proofs.YtladkmnfmpojiaaGreatDoor
namespace V
section
variable {P : Program} {N n0 : Nat} {fx : Fx} {its its' : List Item} {κ : List Conc} {w : World} {tt : TT} {env : Env'}
theorem e_gix (htt : TTOk P tt) {d : Option Nat} {t : TypeId} {ps : String} {af : Array Edge} {gd : Option (Nat × Bool)} {ty E : TypeId} {y : Operand} {k kk : IntKind} {iv v : Int} {g : Nat} {l : List Int}
    (hg : globs.lookup g = some (l.map (Value.int kk))) (hy : evS env y = some (vi k iv)) (hi : idx l iv = some v)
    (hT : (match lkT ty tt, lkT E tt with
      | some ⟨.array n E', _, _, _, _⟩, some ti => Nat.beq n l.length && Nat.beq E' E && Nat.beq ti.size 1
      | _, _ => false) = true) :
    Eff P N n0 fx env its ⟨d, .indexAddr ty (.global g) y, t, ps, af, gd⟩ (some (vp its.length 0)) (its ++ [.elt none false [ci kk v]]) := fun κ w S a ha => by
  obtain ⟨h0, h1, hi⟩ := idx_some hi
  split at hT
  · rename_i n E' _ _ _ _ ti ht hte
    simp only [Bool.and_eq_true, Nat.beq_eq] at hT
    obtain ⟨⟨hn, rfl⟩, hsz⟩ := hT
    have hy' := evS_den (κ := κ) hy
    simp only [SV.den, Cell.den] at hy'
    have hev : a.eval (.global g) = .pointer (some ⟨g, 0, none⟩) := rfl
    have hrun : (Instr.indexAt ty (.pointer (some ⟨g, 0, none⟩)) (.int k iv)).run P w = .ok (.pointer (some ⟨g, iv.toNat, none⟩)) w := by
      have h2 : iv < (n : Int) := by rw [hn]; exact h1
      simp [Instr.indexAt, Instr.sureAddr, asIntOf, run_underlying (htt.get ht).und, h0, h2, (htt.get hte).size, Addr.add_lit, hsz]
    have hmem : ∃ p ∈ globs, p.1 = g ∧ p.2 = l.map (Value.int kk) := by
      revert hg
      generalize globs = G
      intro hg
      induction G with
      | nil => cases hg
      | cons q G ih =>
        obtain ⟨q1, q2⟩ := q
        simp only [List.lookup] at hg
        split at hg
        · rename_i hb
          injection hg with hg
          exact ⟨_, List.mem_cons_self .., (by simpa using hb : g = q1).symm, hg⟩
        · obtain ⟨p, hp, h⟩ := ih hg
          exact ⟨p, List.mem_cons_of_mem _ hp, h⟩
    obtain ⟨p, hp, rfl, hp2⟩ := hmem
    obtain ⟨_, g1, g2, g3⟩ := fx.gl.now S.ctx p hp
    have hcell : w.cell? ⟨p.1, iv.toNat, none⟩ = some (.int kk v) := g3 iv.toNat _ (by rw [hp2, List.getElem?_map, hi]; rfl)
    have hat : At (Mu fx.U0 (Lof its κ)) w ⟨p.1, iv.toNat, none⟩ [.int kk v] := ⟨fun h => h.elim g1 g2, fun j u hu => by
      cases j with
      | zero =>
        simp at hu
        subst hu
        rw [ad_zero]
        exact hcell
      | succ j => simp at hu⟩
    refine .inl ⟨.pointer (some ⟨p.1, iv.toNat, none⟩), w, ?_, [.a ⟨p.1, iv.toNat, none⟩], fun z hz => ?_, S.more rfl (one_get (P := fun (it : Item) (c : Conc) => own1 it c = none) rfl) rfl (one_get (P := fun (it : Item) (c : Conc) => OK _ _ w it c) ⟨hat, by simp⟩)⟩
    · simp only [execOp, hev, ha.ev hy', Sem.run_bind, hrun, Result.andThen_ok]
      rfl
    · injection hz with hz
      subst hz
      simp only [SV.den, Cell.den]
      rw [List.getElem?_append_right (by rw [S.len]; exact Nat.le_refl _), S.len]
      simp [ad_zero]
  · cases hT
end
end V
end Go.Proofs.YtladkmnfmpojiaaGreatDoor
namespace Go.Proofs.YtladkmnfmpojiaaGreatDoor
namespace V
section
variable {P : Program} {N n0 : Nat} {fx : Fx} {env : Env'} {its : List Item} {itsK : KI} {κ1 : List Conc} {tt : TT} {ops : Array Oper} {Kn : Act → World → Prop} {fuel fuel' : Nat} {bs : List Bool} {α : Type} {sz : Nat} {R : RT α} [GRep R]
theorem SD.sub {ks : KB} (htt : TTOk P tt) (D : DK ks itsK κ1) {i d by_ : Nat} {t : TypeId} {ps : String} {af : Array Edge} {ty E : TypeId} {x : Operand} {lo hi' : Option Operand} {a b : Int} {l l' : List α} {v : SV} (bs' : List Bool)
    (hi : ops[i]? = some ⟨some d, .slice ty x lo hi' none, t, ps, af, none⟩) (hf : fuel = fuel' + 1) (hsel : (Region.noSelect ops && (Nat.blt d N && (Region.free .any ops bs.toArray i && ((Region.ready .any ops bs.toArray).contains i && ks.2.2.all (fun j => !Nat.beq j i))))) = true) (hb : bs.set i true = bs') (hK : mkQ ks bs its = slQ ks itsK bs)
    (hx : evS env x = some v) (hv : (∃ j, v = vs j ∧ its[j]? = some (.rd sz R l)) ∨ (v = vn ∧ l = [])) (hlo : bndC env 0 lo = some a) (hhi : bndC env (len l) hi' = some b) (hs : sub l a b = some l') (hT : TRow tt ty E sz by_ = true)
    (hk : SD P ops Kn ks itsK κ1 fuel' bs' N n0 fx ((d, vs its.length) :: env) (its ++ [.rd sz R l'])) : SD P ops Kn ks itsK κ1 fuel bs N n0 fx env its := fun κx w S => by
  subst hf
  simp only [Bool.and_eq_true] at hsel
  obtain ⟨hns, hN, hfree, hready, hnb⟩ := hsel
  obtain ⟨hu, _, hpos, hsz⟩ := trow_get htt hT
  have hsl : ∃ A n c, v.den (κ1 ++ κx) = .slice A n c ∧ n = l.length ∧ Sl sz R (Mu fx.U0 (Lof its (κ1 ++ κx))) w A c l := by
    rcases hv with ⟨j, rfl, hj⟩ | ⟨rfl, rfl⟩
    · obtain ⟨c, hc, hok⟩ := S.conc hj
      cases c with
      | r A n c => exact ⟨A, n, c, by simp [SV.den, Cell.den, hc], hok.1, hok.2⟩
      | _ => exact hok.elim
    · exact ⟨none, 0, 0, rfl, rfl, Sl.nil0⟩
  obtain ⟨A, n, c, h1, rfl, h3⟩ := hsl
  have hx' := evS_den (κ := κ1 ++ κx) hx
  rw [h1] at hx'
  have bnd : ∀ (q : Option Operand) (dflt r : Int), bndC env dflt q = some r → ∃ qv, q.mapM (ev (denE (κ1 ++ κx) env)) = some qv ∧ ((qv = none ∧ r = dflt) ∨ ∃ k, qv = some (.int k r)) := by
    intro q dflt r h
    cases q with
    | none => simp only [bndC, Option.some.injEq] at h; exact ⟨none, rfl, .inl ⟨rfl, h.symm⟩⟩
    | some x =>
      simp only [bndC] at h
      split at h
      · rename_i k n hx
        injection h with h; subst h
        exact ⟨some (.int k n), by simp [evS_den hx, SV.den, Cell.den], .inr ⟨k, rfl⟩⟩
      · cases h
  obtain ⟨lov, hl1, hl2⟩ := bnd lo 0 a hlo
  obtain ⟨hiv, hh1, hh2⟩ := bnd hi' (len l) b hhi
  obtain ⟨A', c', hrun, hsl'⟩ := sl_sub (N := N) hu hsz hx' hl1 hh1 hl2 hh2 h3 hs
  have S1 := S.more (its2 := [.rd sz R l']) (κ2 := [.r A' l'.length c']) rfl (one_get (P := fun (it : Item) (c : Conc) => own1 it c = none) rfl) rfl (one_get (P := fun (it : Item) (c : Conc) => OK _ _ w it c) ⟨rfl, hsl'⟩)
  have S2 : St n0 fx ((d, vs its.length) :: env) (its ++ [.rd sz R l']) (κ1 ++ (κx ++ [.r A' l'.length c'])) w := by
    rw [← List.append_assoc]
    refine S1.prune ?_
    have h0 := S1.sce
    unfold scE at h0 ⊢
    rw [List.all_cons, h0]
    simp [SV.lt, Cell.lt, Nat.blt_eq]
  refine WA.take hi hns hfree hready (KnS.less hnb) (fun w => hrun) ((S.knoS hK D).setL hb) hN hb ?_
  have h5 := hk (κx ++ [.r A' l'.length c']) w S2
  have e : denE (κ1 ++ (κx ++ [.r A' l'.length c'])) ((d, vs its.length) :: env) = (d, .slice A' l'.length c') :: denE (κ1 ++ κx) env := by
    rw [← List.append_assoc]
    have h6 : denE ((κ1 ++ κx) ++ [.r A' l'.length c']) env = denE (κ1 ++ κx) env := denE_app (by rw [S.len]; exact S.sce)
    show (d, _) :: denE _ env = _
    rw [h6]
    congr 1
    simp only [SV.den, Cell.den]
    rw [List.getElem?_append_right (by rw [S.len]; exact Nat.le_refl _), S.len]
    simp
  rw [e] at h5
  exact h5
end
end V
end Go.Proofs.YtladkmnfmpojiaaGreatDoor
namespace Go.Proofs.YtladkmnfmpojiaaGreatDoor
namespace V
section
variable {P : Program} {ops : Array Oper} {Kn : Act → World → Prop} {fuel N n0 : Nat} {bs bs' : List Bool} {fx : Fx} {env : Env'} {its : List Item} {itsK : KI} {κ1 : List Conc}
theorem SW.skip {ks : KB} {i d j s : Nat} {b : Bool} {op : Op} {t : TypeId} {ps : String} {af : Array Edge} (D : DK ks itsK κ1) (hi : ops[i]? = some ⟨some d, op, t, ps, af, some (j, b)⟩) (hj : (ops[j]?).bind (·.dst) = some s) (hg : lkE s env = some (.u []) ∨ ∃ x, lkE s env = some (vb x) ∧ x = !b) (hN : Nat.blt d N = true) (hb : bs.set i true = bs') (hK : mkQ ks bs' its = slQ ks itsK bs')
    (hk : SD P ops Kn ks itsK κ1 fuel bs' N n0 fx ((d, .u []) :: env) its) : SW P ops Kn ks itsK κ1 fuel bs N n0 fx env its i := fun κx w S a ha => by
  have hw : Region.wanted ⟨some d, op, t, ps, af, some (j, b)⟩ (yielded ops a.tmps) = false := by
    rcases hg with hs | ⟨x, hs, hx⟩
    · have hl := lkE_den (κ := κ1 ++ κx) hs
      have : yielded ops a.tmps j = none := by
        unfold yielded
        rw [hj]
        simp [ha.get s _ hl, SV.den]
      simp [Region.wanted, this]
    · have hl := lkE_den (κ := κ1 ++ κx) hs
      simp only [SV.den, Cell.den] at hl
      simp only [Region.wanted, yielded_of hj hl ha, hx]
      cases b <;> rfl
  unfold wpOp
  simp only [hi, hw]
  have e : bs.toArray.setIfInBounds i true = bs'.toArray := by rw [← hb]; simp
  rw [e]
  refine ⟨S.knoS hK D, ?_⟩
  have h3 := hk κx w (S.env (by
    have := S.sce
    unfold scE at this ⊢
    simp only [List.all_cons, this, Bool.and_true]
    rfl))
  have h4 := h3 _ (ha.put hN)
  simpa [SV.den, undef] using h4
end
end V
end Go.Proofs.YtladkmnfmpojiaaGreatDoor
namespace Go.Proofs.YtladkmnfmpojiaaGreatDoor
namespace V
section
variable {P : Program} {α : Type} {sz : Nat} {R : RT α} [GRep R] {N : Nat} {U0 : Nat → Prop} {X0 : List (Option Nat)} {w0 w : World} {L : List (Option Nat)}
theorem rw_appdel {ty E : TypeId} {l : Env} {d : Option Nat} {t : TypeId} {ps : String} {af : Array Edge} {g : Option (Nat × Bool)} {x y : Operand} {i c a b : Nat} {A : Option Addr} {dt : List α} (hu : P.underlying ty = some (.slice E)) (hs : ∀ w, (sizeOf E).run P w = .ok sz w) (_ : 0 < sz)
    (hx : ev l x = some (.slice (if c = 0 then A else A.map (·.add (0 * sz))) a (c - 0))) (hy : ev l y = some (.slice (if c = b then A else A.map (·.add (b * sz))) (dt.length - b) (c - b))) (h1 : a ≤ b) (h2 : b ≤ dt.length)
    (h : Own sz E R (Mu U0 L) w A c dt) (hL : L[i]? = some (ob A)) (C : Ctx U0 X0 w0 L w) :
    RunW P N l ⟨d, .call { callee := .builtin .append, args := #[x, y], argTypes := #[ty, ty] }, t, ps, af, g⟩ w (OwnNew sz E R U0 X0 w0 L w [ob A] (L.set i) (dt.take a ++ dt.drop b)) := fun ac haa => by
  have hex := haa.ev hx
  have hey := haa.ev hy
  have hlen : (dt.take a ++ dt.drop b).length = a + (dt.length - b) := by
    rw [List.length_append, List.length_take, List.length_drop, Nat.min_eq_left (by omega)]
  rcases own_form h with ⟨rfl, rfl, rfl⟩ | ⟨q, pre, cur, post, fz, rfl, hfz, hg, hle, hm, hsz, he⟩
  · have hb : b = 0 := by simpa using h2
    have ha : a = 0 := by omega
    subst hb
    subst ha
    have hset : L.set i (ob none) = L := set_same hL
    refine ⟨.slice none 0 0, w, ?_, none, 0, rfl, ?_, ?_, ?_⟩
    · simp only [execOp, resolve, invoke, builtin, Sem.run_bind, Sem.run_pure, Result.andThen_ok, List.map_toArray, List.map_cons, List.map_nil, hex, hey]
      simp [Builtin.append_, run_underlying hu, hs, Builtin.lenOf, Builtin.firstCells]
    · rw [hset]; exact h
    · rw [hset]; exact C
    · rw [hset]
      exact ⟨Nat.le_refl _, fun _ _ _ => rfl, fun b e => (by rw [List.mem_singleton] at e; rw [e]; exact List.mem_of_getElem? hL), fun _ _ h => h⟩
  · have hbc : b ≤ c := by omega
    have hcur : (pre ++ cur ++ post).drop pre.length = cur ++ post := by rw [List.append_assoc, List.drop_left]
    obtain ⟨news, hnews⟩ : ∃ news, news = (cur.take (dt.length * sz)).drop (b * sz) := ⟨_, rfl⟩
    have hcl : dt.length * sz ≤ cur.length := by rw [hsz]; exact Nat.mul_le_mul_right _ hle
    have hnl : news.length = (dt.length - b) * sz := by
      rw [hnews, List.length_drop, List.length_take, Nat.min_eq_left hcl, Nat.sub_mul]
    have hA1 : (if c = 0 then (some ⟨q, pre.length, none⟩ : Option Addr) else (some (⟨q, pre.length, none⟩ : Addr)).map (·.add (0 * sz))) = some ⟨q, pre.length, none⟩ := by
      rw [Nat.zero_mul]
      split
      · rfl
      · rw [Option.map_some, add_lit]; rfl
    obtain ⟨ad, hA2, hsrc⟩ : ∃ ad : Addr, (if c = b then (some ⟨q, pre.length, none⟩ : Option Addr) else (some (⟨q, pre.length, none⟩ : Addr)).map (·.add (b * sz))) = some ad ∧ ∀ j u, news[j]? = some u → w.cell? (ad.add j) = some u := by
      by_cases hc : c = b
      · refine ⟨_, if_pos hc, fun j u hu => ?_⟩
        have h0 : news.length = 0 := by
          rw [hnl, show dt.length - b = 0 by omega, Nat.zero_mul]
        rw [List.length_eq_zero_iff.1 h0] at hu
        simp at hu
      · refine ⟨⟨q, pre.length + b * sz, none⟩, by rw [if_neg hc, Option.map_some, add_lit], fun j u hu => ?_⟩
        rw [hnews, List.getElem?_drop, List.getElem?_take] at hu
        split at hu
        · rw [add_lit]
          have h5 := (List.getElem?_eq_some_iff.1 hu).1
          simp only [World.cell?, hg]
          have : (pre ++ cur ++ post)[pre.length + b * sz + j]? = some u := by
            rw [List.append_assoc, List.getElem?_append_right (by omega), List.getElem?_append_left (by omega), ← hu]
            congr 1
            omega
          simpa using this
        · cases hu
    rw [hA1] at hex
    rw [hA2] at hey
    have hone := Els.one _ _ he
    have hrun := run_append_room_z (P := P) w ty t E sz hu hs q pre.length a (c - 0) (pre ++ cur ++ post).toArray fz (by simpa using hfz) hg ad (dt.length - b) (c - b) news hnl hsrc (fun u hu => hone u (by rw [hnews] at hu; exact List.mem_of_mem_drop hu)) (by omega) (by
      have : a * sz + news.length ≤ dt.length * sz := by
        rw [hnl, ← Nat.add_mul]
        exact Nat.mul_le_mul_right _ (by omega)
      simp only [List.size_toArray, List.length_append]
      omega)
    have hasz : a * sz ≤ cur.length := Nat.le_trans (Nat.mul_le_mul_right _ (by omega)) hcl
    have hans : a * sz + news.length ≤ dt.length * sz := by
      rw [hnl, ← Nat.add_mul]
      exact Nat.mul_le_mul_right _ (by omega)
    have hrow : (pre ++ cur ++ post).take (pre.length + a * sz) ++ news ++ (pre ++ cur ++ post).drop (pre.length + a * sz + news.length) = pre ++ (cur.take (a * sz) ++ news ++ cur.drop (a * sz + news.length)) ++ post := by
      have e1 : (pre ++ cur ++ post).take (pre.length + a * sz) = pre ++ cur.take (a * sz) := by
        rw [List.append_assoc, List.take_append, List.take_of_length_le (by omega), Nat.add_sub_cancel_left, List.take_append, show a * sz - cur.length = 0 by omega, List.take_zero, List.append_nil]
      have e2 : (pre ++ cur ++ post).drop (pre.length + a * sz + news.length) = cur.drop (a * sz + news.length) ++ post := by
        rw [List.append_assoc, List.drop_append, List.drop_of_length_le (by omega), List.nil_append, show pre.length + a * sz + news.length - pre.length = a * sz + news.length by omega, List.drop_append, show a * sz + news.length - cur.length = 0 by omega, List.drop_zero]
      rw [e1, e2]
      simp only [List.append_assoc]
    obtain ⟨w', hw'⟩ : ∃ w', w' = w.setRow q (pre ++ (cur.take (a * sz) ++ news ++ cur.drop (a * sz + news.length)) ++ post).toArray := ⟨_, rfl⟩
    have hrow' : ((pre ++ cur ++ post).toArray.toList.take (pre.length + a * sz) ++ news ++ (pre ++ cur ++ post).toArray.toList.drop (pre.length + a * sz + news.length)) = pre ++ (cur.take (a * sz) ++ news ++ cur.drop (a * sz + news.length)) ++ post := hrow
    rw [hrow', ← hw'] at hrun
    have hg' : w'.heap[q]? = some (.cells (pre ++ (cur.take (a * sz) ++ news ++ cur.drop (a * sz + news.length)) ++ post).toArray E fz) := by
      rw [hw']
      exact setRow_heap w q _ _ E fz hg
    have hother : ∀ k, q ≠ k → w'.heap[k]? = w.heap[k]? := fun k hne => by
      rw [hw']
      exact setRow_other _ q k _ (fun e => hne e.symm)
    have hT := C.turn (w' := w') (y := some q) (L' := L.set i (some q)) hL (by rw [hw']; rfl) (by rw [hw']; rfl) (by rw [hw']; rfl) (by rw [hw']; simp) (fun k _ hne => hother k (fun e => hne (by rw [e]; rfl))) (.inl rfl) rfl
    have hcl2 : (cur.take (a * sz) ++ news ++ cur.drop (a * sz + news.length)).length = cur.length := by
      rw [List.length_append, List.length_append, List.length_take, List.length_drop]
      omega
    refine ⟨.slice (some ⟨q, pre.length, none⟩) (a + (dt.length - b)) (c - 0), w', ?_, some ⟨q, pre.length, none⟩, c, by rw [hlen]; rfl, ?_, hT.1, hT.2⟩
    · simp only [execOp, resolve, invoke, builtin, Sem.run_bind, Sem.run_pure, Result.andThen_ok, List.map_toArray, List.map_cons, List.map_nil, hex, hey, hrun]
    · refine own_mk2 (cur := cur.take (a * sz) ++ news ++ cur.drop (a * sz + news.length)) (post := post) (fz := fz) ?_ hg' (by rw [hlen]; omega) hm (by rw [hcl2, hsz]) ?_
      · rw [List.length_append, List.length_append, hcl2, ← List.length_append, ← List.length_append]
        exact hfz
      · have e0 : (cur.take (a * sz) ++ news ++ cur.drop (a * sz + news.length)).take ((dt.take a ++ dt.drop b).length * sz) = cur.take (a * sz) ++ news := by
          have : (dt.take a ++ dt.drop b).length * sz = (cur.take (a * sz) ++ news).length := by
            rw [hlen, List.length_append, List.length_take, hnl, Nat.min_eq_left hasz, Nat.add_mul]
          rw [this]
          exact List.take_left
        have e1 := Els.take a dt _ he
        have e2 := Els.drop b dt _ he
        rw [List.take_take, Nat.min_eq_left (Nat.mul_le_mul_right _ (by omega))] at e1
        rw [← hnews] at e2
        rw [e0]
        exact Els.step hT.2.h1 hT.2.mono _ _ (Els.append _ _ _ _ e1 e2)
end
theorem lk_none {κ : List Conc} {d : Nat} : ∀ {env : Env'}, (env.all fun p => !(Nat.beq d p.1)) = true → ∀ v, lk d (denE κ env) ≠ some v
  | [], _, v => by intro h; cases h
  | (t, x) :: env, h, v => by
    rw [List.all_cons, Bool.and_eq_true] at h
    intro e
    have e' : lk d ((t, x.den κ) :: denE κ env) = some v := e
    simp only [lk] at e'
    have h1 : Nat.beq d t = false := by simpa using h.1
    rw [h1] at e'
    exact lk_none h.2 v e'
theorem mapM_ev {l : Env} {o : Operand} {v : Value} (h : ev l o = some v) : (some o).mapM (ev l) = some (some v) := by simp [h]
theorem Holds.drop1 {N : Nat} {d : Nat} {v : Value} {l : Env} {a : Act} (h : Holds N ((d, v) :: l) a) (hd : ∀ u, lk d l ≠ some u) : Holds N l a :=
  ⟨h.size, h.defers, fun t u hu => h.get t u (by
    simp only [lk]
    cases hb : Nat.beq t d with
    | true =>
      rw [Nat.eq_of_beq_eq_true hb] at hu
      exact absurd hu (hd u)
    | false => exact hu)⟩
section
variable {P : Program} {N n0 : Nat} {fx : Fx} {env : Env'} {its : List Item} {itsK : KI} {κ1 : List Conc} {tt : TT} {ops : Array Oper} {Kn : Act → World → Prop} {fuel fuel' : Nat} {bs : List Bool} {α : Type} {sz : Nat} {R : RT α} [GRep R]
theorem SD.appd {ks : KB} (htt : TTOk P tt) (D : DK ks itsK κ1) {i2 i6 i7 d2 d6 d7 by_ j : Nat} {t2 t6 t7 : TypeId} {ps2 ps6 ps7 : String} {af2 af6 af7 : Array Edge} {ty E : TypeId} {x y hi lo : Operand} {a : Int} {l l1 l2 l' : List α} (bs1 bs2 bs3 : List Bool)
    (h2 : ops[i2]? = some ⟨some d2, .slice ty x none (some hi) none, t2, ps2, af2, none⟩) (h6 : ops[i6]? = some ⟨some d6, .slice ty y (some lo) none none, t6, ps6, af6, none⟩) (h7 : ops[i7]? = some ⟨some d7, .call { callee := .builtin .append, args := #[.tmp d2, .tmp d6], argTypes := #[ty, ty] }, t7, ps7, af7, none⟩)
    (hx : evS env x = some (vs j)) (hy : evS env y = some (vs j)) (hj : its[j]? = some (.own sz E R l)) (hhi : evS env hi = some (vi .i64 a)) (hlo : evS env lo = some (vi .i64 (w64 (a + 1))))
    (hs1 : V.sub l 0 a = some l1) (hs2 : V.sub l (w64 (a + 1)) (len l) = some l2) (hap : app by_ l1 l2 = some l') (hf : fuel = fuel' + 1 + 1 + 1)
    (hB : (Region.noSelect ops && (ks.2.2.all (fun j => !Nat.beq j i2) && (ks.2.2.all (fun j => !Nat.beq j i6) && (Nat.blt d2 N && (Nat.blt d6 N && (Nat.blt d7 N && (Region.free .any ops bs.toArray i2 && ((Region.ready .any ops bs.toArray).contains i2 && (Region.free .any ops bs1.toArray i6 && ((Region.ready .any ops bs1.toArray).contains i6 && (!(Nat.beq d2 d6) && ((env.all fun p => !(Nat.beq d2 p.1)) && (env.all fun p => !(Nat.beq d6 p.1)))))))))))))) = true)
    (hr7 : Region.ready .any ops bs2.toArray = [i7]) (hb1 : bs.set i2 true = bs1) (hb2 : bs1.set i6 true = bs2) (hb3 : bs2.set i7 true = bs3) (hT : (TRow tt ty E sz by_ && !its.any Item.ow) = true) (hK : mkQ ks bs its = slQ ks itsK bs) (hK' : mkQ ks bs3 (its.set j .gone ++ [.own sz E R l']) = slQ ks itsK bs3)
    (hk : SD P ops Kn ks itsK κ1 fuel' bs3 N n0 fx ((d7, vs its.length) :: env) (its.set j .gone ++ [.own sz E R l'])) : SD P ops Kn ks itsK κ1 fuel bs N n0 fx env its := fun κx w S => by
  subst hf
  simp only [Bool.and_eq_true, Bool.not_eq_true'] at hB hT
  obtain ⟨hns, hnb2, hnb6, hN2, hN6, hN7, hfr2, hrd2, hfr6, hrd6, hne, hd2, hd6⟩ := hB
  obtain ⟨hT, how⟩ := hT
  obtain ⟨hu, _, hpos, hsz⟩ := trow_get htt hT
  have hpos' : 0 < sz := by simpa [Nat.blt_eq] using hpos
  obtain ⟨cc, hc, hok⟩ := S.conc hj
  cases cc with
  | r A n c =>
    obtain ⟨hn, ho⟩ := hok
    subst hn
    have hx' := evS_den (κ := κ1 ++ κx) hx
    have hy' := evS_den (κ := κ1 ++ κx) hy
    simp only [SV.den, Cell.den, hc] at hx' hy'
    have hhi' := evS_den (κ := κ1 ++ κx) hhi
    have hlo' := evS_den (κ := κ1 ++ κx) hlo
    simp only [SV.den, Cell.den] at hhi' hlo'
    have hcb : l.length ≤ c ∧ c ≤ maxLen := by
      rcases own_form ho with ⟨_, rfl, rfl⟩ | ⟨_, _, _, _, _, _, _, _, h1, h2, _⟩
      · exact ⟨Nat.le_refl _, Nat.zero_le _⟩
      · exact ⟨h1, h2⟩
    obtain ⟨p1, p2, p3, rfl⟩ := sub_some hs1
    obtain ⟨q1, q2, q3, rfl⟩ := sub_some hs2
    obtain ⟨_, _, rfl⟩ := app_some hap
    have hmx : c ≤ 9223372036854775807 := hcb.2
    have hln : len l = (l.length : Int) := rfl
    have hw : w64 (a + 1) = a + 1 := by
      by_cases h : a + 1 < 9223372036854775808
      · exact w64_id (by omega) h
      · unfold w64 at q1
        omega
    have r2 : ∀ w, RunV P N (denE (κ1 ++ κx) env) ⟨some d2, .slice ty x none (some hi) none, t2, ps2, af2, none⟩ w _ := fun w => sl_run (N := N) (w := w) (a := 0) (b := a) (lov := none) (hiv := some (.int .i64 a)) hu hsz hx' rfl (mapM_ev hhi') (.inl ⟨rfl, rfl⟩) (.inr ⟨_, rfl⟩) hcb.1 hcb.2 hs1
    refine WA.take h2 hns hfr2 hrd2 (KnS.less hnb2) r2 ((S.knoS hK D).setL hb1) hN2 hb1 ?_
    have up : ∀ (o : Operand) (v : Value) (sv : SV), evS env o = some sv → ev (denE (κ1 ++ κx) env) o = some v → ev ((d2, .slice (if c = (0 : Int).toNat then A else A.map (·.add ((0 : Int).toNat * sz))) (List.drop (0 : Int).toNat (List.take a.toNat l)).length (c - (0 : Int).toNat)) :: denE (κ1 ++ κx) env) o = some v := fun o v sv _ h => by
      cases o with
      | tmp t =>
        simp only [ev, lk] at h ⊢
        cases hb : Nat.beq t d2 with
        | true =>
          rw [Nat.eq_of_beq_eq_true hb] at h
          exact absurd h (lk_none hd2 v)
        | false => exact h
      | const u => exact h
      | global g => exact h
      | func f => exact h
    have r6 : ∀ w, RunV P N _ ⟨some d6, .slice ty y (some lo) none none, t6, ps6, af6, none⟩ w _ := fun w => sl_run (N := N) (w := w) (a := w64 (a + 1)) (b := len l) (lov := some (.int .i64 (w64 (a + 1)))) (hiv := none) hu hsz (up _ _ _ hy hy') (mapM_ev (up _ _ _ hlo hlo')) rfl (.inr ⟨_, rfl⟩) (.inl ⟨rfl, rfl⟩) hcb.1 hcb.2 hs2
    refine WA.take h6 hns hfr6 hrd6 (KnS.less hnb6) r6 (((S.knoS hK D).setL hb1).setL hb2) hN6 hb2 ?_
    have hL : (Lof its (κ1 ++ κx))[j]? = some (ob A) := Lof_get hj hc
    refine WA.all1 hr7 ?_
    have e62 : Nat.beq d6 d6 = true := Nat.beq_refl _
    have hnat : (w64 (a + 1)).toNat = a.toNat + 1 := by rw [hw]; omega
    have hl1 : (List.drop (0 : Int).toNat (List.take a.toNat l)).length = a.toNat := by
      rw [show (0 : Int).toNat = 0 from rfl, List.drop_zero, List.length_take]
      omega
    have hl2 : (List.drop (w64 (a + 1)).toNat (List.take (len l).toNat l)).length = l.length - (a.toNat + 1) := by
      rw [hnat, List.length_drop, List.length_take, hln, Int.toNat_natCast]
      omega
    have hll : List.drop (0 : Int).toNat (List.take a.toNat l) ++ List.drop (w64 (a + 1)).toNat (List.take (len l).toNat l) = l.take a.toNat ++ l.drop (a.toNat + 1) := by
      rw [hnat, hln, Int.toNat_natCast, List.take_length, show (0 : Int).toNat = 0 from rfl, List.drop_zero]
    rw [hll] at hk hK'
    refine WS.world h7 (rw_appdel (i := j) (c := c) (a := a.toNat) (b := a.toNat + 1) (A := A) (dt := l) hu hsz hpos' ?_ ?_ (by omega) (by omega) ho hL S.ctx) hN7 hb3 (fun u w' hv => ?_)
    · show lk d2 ((d6, _) :: (d2, _) :: _) = _
      simp only [lk, hne, Nat.beq_refl, hl1]
      rfl
    · show lk d6 ((d6, _) :: (d2, _) :: _) = _
      simp only [lk, Nat.beq_refl]
      rw [hl2, hnat]
    · obtain ⟨κy, e1, S'⟩ := appended_st S how hj hc hv
      have e1 := e1 _ rfl
      injection e1 with e1
      subst e1
      rw [List.append_assoc] at S'
      refine ⟨S'.knoS hK' D, ?_⟩
      have hsce := S'.sce
      have h3 := hk (κx ++ κy) w' (S'.env (by
        unfold scE at hsce ⊢
        rw [List.all_cons, hsce]
        simp [SV.lt, Cell.lt, Nat.blt_eq]))
      have h2 : denE (κ1 ++ (κx ++ κy)) ((d7, vs its.length) :: env) = (d7, (vs its.length).den (κ1 ++ κx ++ κy)) :: denE (κ1 ++ κx) env := by
        rw [← List.append_assoc]
        show (d7, _) :: denE (κ1 ++ κx ++ κy) env = _
        rw [denE_app (by rw [S.len]; exact S.sce)]
      rw [h2] at h3
      intro ac hac
      refine h3 ac ⟨hac.size, hac.defers, fun t v hv => hac.get t v ?_⟩
      simp only [lk] at hv ⊢
      cases hb : Nat.beq t d7 with
      | true => rw [hb] at hv; exact hv
      | false =>
        rw [hb] at hv
        cases hb6 : Nat.beq t d6 with
        | true =>
          rw [Nat.eq_of_beq_eq_true hb6] at hv
          exact absurd hv (lk_none hd6 v)
        | false =>
          cases hb2 : Nat.beq t d2 with
          | true =>
            rw [Nat.eq_of_beq_eq_true hb2] at hv
            exact absurd hv (lk_none hd2 v)
          | false => exact hv
  | _ => exact hok.elim
end
end V
end Go.Proofs.YtladkmnfmpojiaaGreatDoor
namespace Go.Proofs.YtladkmnfmpojiaaGreatDoor
namespace V
section
variable {P : Program} {N n0 : Nat} {fx : Fx} {its its' : List Item} {κ : List Conc} {w : World} {tt : TT} {env : Env'} {α : Type} {sz : Nat} {E : TypeId} {R : RT α} [GRep R] {d : Option Nat} {t : TypeId} {ps : String} {af : Array Edge} {g : Option (Nat × Bool)}
/-- A field of an element: its place. -/
theorem e_fap (htt : TTOk P tt) {s : TypeId} {x : Operand} {f i o off : Nat} {iv : Int} {l : List α} {e : α} (hx : evS env x = some (vp i o)) (hi : its[i]? = some (.own sz E R l)) (he : idx l iv = some e)
    (hT : (match lkT s tt with
      | some ⟨.struct fs, _, _, _, _⟩ => (match fs[f]? with
        | some fd => (match lkT fd.type tt with
          | some ti => Nat.beq fd.offset off && !(Nat.beq ti.size 0)
          | none => false)
        | none => false)
      | _ => false) = true) : Eff P N n0 fx env its ⟨d, .fieldAddr s x f, t, ps, af, g⟩ (some (vp i (o + off))) its := fun κ w S a haa => by
  split at hT
  · rename_i fs _ _ _ _ hs
    split at hT
    · rename_i fd hf
      split at hT
      · rename_i ti ht
        simp only [Bool.and_eq_true, Bool.not_eq_true', Nat.beq_eq] at hT
        obtain ⟨hof, h0⟩ := hT
        obtain ⟨c, hc, hok⟩ := S.conc hi
        cases c with
        | r A n c =>
          obtain ⟨hn, ho⟩ := hok
          obtain ⟨_, _, hxx⟩ := idx_some he
          rcases own_form ho with ⟨rfl, rfl, rfl⟩ | ⟨b, pre, cur, post, fz, rfl, _⟩
          · simp at hxx
          have hx' := evS_den (κ := κ) hx
          simp only [SV.den, Cell.den, hc] at hx'
          obtain ⟨info, z', hinf, hsi, _⟩ := (htt.get ht).info
          have hrun := rv_fieldAddr (N := N) (d := d) (t := t) (ps := ps) (af := af) (g := g) (w := w) (fieldAt_of (htt.get hs).und hf hinf (fun e => by rw [← hsi, e] at h0; cases h0) hof) hx' (add_add _ _ _)
          refine .inl ⟨_, w, hrun a haa, [], fun z hz => ?_, by rw [List.append_nil]; exact S⟩
          injection hz with hz
          subst hz
          simp only [SV.den, Cell.den, List.append_nil, hc]
        | _ => exact hok.elim
      · cases hT
    · cases hT
  · cases hT
/-- A field of an element is loaded from its place. -/
theorem e_ldf [GOpen R] (htt : TTOk P tt) {ty : TypeId} {x : Operand} {i o : Nat} {iv : Int} {l : List α} {e : α} {cc : Cell} (hx : evS env x = some (vp i (iv.toNat * sz + o))) (hi : its[i]? = some (.own sz E R l)) (he : idx l iv = some e) (hcc : (GOpen.cells R e (its.length + 1))[o]? = some cc) (hpos : (Nat.blt 0 sz && !its.any Item.ow) = true)
    (hT : (match lkT ty tt with
      | some ti => !ti.agg
      | none => false) = true) (_ : ((GOpen.its R e).any Item.ow) = false) :
    Eff P N n0 fx env its ⟨d, .load ty x, t, ps, af, g⟩ (some (.c cc)) (kl (its ++ (.elt (some (i, iv)) true (GOpen.cells R e (its.length + 1)) :: GOpen.its R e))) := fun κ w S a haa => by
  simp only [Bool.and_eq_true, Bool.not_eq_true'] at hpos
  obtain ⟨hpos, how⟩ := hpos
  have hpos' : 0 < sz := by simpa [Nat.blt_eq] using hpos
  split at hT
  · rename_i ti ht
    have hag : ti.agg = false := by simpa using hT
    obtain ⟨c, hc, hok⟩ := S.conc hi
    cases c with
    | r A n c =>
      obtain ⟨hn, ho⟩ := hok
      obtain ⟨h0, h1, hxx⟩ := idx_some he
      rcases own_form ho with ⟨rfl, rfl, rfl⟩ | ⟨b, pre, cur, post, fz, rfl, _, hg, _, _, hsize, hes⟩
      · simp at hxx
      obtain ⟨e1, hl1, hr, hcell⟩ := Els.get l _ iv.toNat e hes hxx
      have hne : e1 ≠ [] := fun q => by rw [q] at hl1; simp at hl1; omega
      have hcl : ∀ j u, e1[j]? = some u → w.cell? (((⟨b, pre.length, none⟩ : Addr).add (iv.toNat * sz)).add j) = some u := by
        intro j u hu
        have := hcell j u hu
        rw [add_add, add_lit]
        rw [List.getElem?_take] at this
        split at this
        · have hj := (List.getElem?_eq_some_iff.1 this).1
          simp only [World.cell?, hg]
          rw [← this, ← row_get (pre := pre) (post := post) hj]
          simp
        · cases this
      have hat : At (fun b => true = false ∧ Mu fx.U0 (Lof its κ) b) w ((⟨b, pre.length, none⟩ : Addr).add (iv.toNat * sz)) e1 := ⟨fun h => (by cases h.1), hcl⟩
      obtain ⟨κx, S'⟩ := el_more (ow := true) S hat hne hr (List.getElem?_eq_some_iff.1 hi).1 ⟨_, n, c, hc, by rw [hl1], h0, by omega⟩
      have hx' := evS_den (κ := κ) hx
      simp only [SV.den, Cell.den, hc] at hx'
      -- the element's cells, described
      obtain ⟨c', hc', hok'⟩ := S'.conc (i := its.length) (by rw [List.getElem?_append_right (Nat.le_refl _), Nat.sub_self]; rfl)
      cases c' with
      | a ad =>
        obtain ⟨hat', _, A', n', c2, hA', had, _, _⟩ := hok'
        have hil := (List.getElem?_eq_some_iff.1 hc).1
        rw [List.getElem?_append_left hil, hc] at hA'
        injection hA' with hA'
        injection hA' with hA' _ _
        injection hA' with hA'
        subst hA'
        have hlen : (GOpen.cells R e (its.length + 1)).length = e1.length := by
          obtain ⟨κs, k1, k2, _⟩ := GOpen.op hr
          have q1 := congrArg List.length (k2 (κ ++ [.a ad]))
          rw [List.length_append, List.length_singleton, S.len, List.length_map] at q1
          exact q1.symm
        have hcs : e1 = (GOpen.cells R e (its.length + 1)).map (Cell.den (κ ++ κx)) := by
          refine List.ext_getElem? fun k => ?_
          by_cases hk : k < e1.length
          · obtain ⟨u, hu⟩ : ∃ u, ((GOpen.cells R e (its.length + 1)).map (Cell.den (κ ++ κx)))[k]? = some u := ⟨_, List.getElem?_eq_getElem (by rw [List.length_map, hlen]; exact hk)⟩
            have q3 := hat'.2 k u hu
            have q4 := hcl k _ (List.getElem?_eq_getElem hk)
            rw [had, hlen, hl1, q4] at q3
            rw [hu, List.getElem?_eq_getElem hk]
            exact q3
          · rw [List.getElem?_eq_none (by omega), List.getElem?_eq_none (by rw [List.length_map, hlen]; omega)]
        obtain ⟨u1, hu1⟩ : ∃ u1, e1[o]? = some u1 := ⟨cc.den (κ ++ κx), by rw [hcs, List.getElem?_map, hcc]; rfl⟩
        have hu2 := hu1
        rw [hcs, List.getElem?_map, hcc] at hu2
        simp only [Option.map_some, Option.some.injEq] at hu2
        have hrun := rv_loadA1 (P := P) (N := N) (d := d) (t := t) (ps := ps) (af := af) (g := g) (o := o) (v := u1) (ty := ty) (l := denE κ env) (x := x) (w := w) (ad := (⟨b, pre.length, none⟩ : Addr).add (iv.toNat * sz)) (es := e1) (U := fun b => true = false ∧ Mu fx.U0 (Lof its κ) b) (fun w => by have := (htt.get ht).agg w; rw [hag] at this; exact this) (by rw [hx', add_add]) hat hu1
        refine .inl ⟨_, w, hrun a haa, κx, fun z hz => ?_, S'.kill⟩
        injection hz with hz
        subst hz
        rw [← hu2]
        rfl
      | _ => exact hok'.elim
    | _ => exact hok.elim
  · cases hT
end
end V
end Go.Proofs.YtladkmnfmpojiaaGreatDoor
