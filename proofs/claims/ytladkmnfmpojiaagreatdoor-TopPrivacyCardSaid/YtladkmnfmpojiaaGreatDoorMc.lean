/-
  The machine's operations are the model's.
-/
import Derived.Test.YtladkmnfmpojiaaGreatDoorMb
import Derived.Lib.ConvBytes
namespace Go.Proofs.YtladkmnfmpojiaaGreatDoor
namespace I
section
variable {P : Program} {tt : T Ti} {φ : Ph} {w0 w : World} {W W' : I.W} {f : T V} {ρ : Operand → Value} {v : V} {ty : TypeId} {d : Option Tmp} {ps : String} {af : Array Edge} {g : Option (Nat × Bool)}
theorem bopV_ok {op : BinOp} {e : Bool} {a : A} (h : bopV op e = some a) : (op = .eql ∧ a = .b e) ∨ (op = .neq ∧ a = .b (!e)) := by
  cases op <;> first | cases h | skip
  · left; cases e <;> (cases h; exact ⟨rfl, rfl⟩)
  · right; cases e <;> (cases h; exact ⟨rfl, rfl⟩)
theorem maxD : ∃ n, Op.maxDepth = n + 1 := ⟨9999, rfl⟩
/-- Equality, by the machine and by the model. -/
theorem eqV_ok {t : TypeId} {x y : V} {u s : Value} {e : Bool} (htt : TtS P tt) (hx : VR φ x u) (hy : VR φ y s) (h : eqV tt t x y = some e) :
    (Op.equal t u s).run P w = .ok e w ∧ (∀ (op : BinOp) (a b : Operand), (eqGuard op t a b u s).run P w = .ok () w) ∧ (binOp .eql t u s).run P w = .ok (.bool e) w ∧ (binOp .neq t u s).run P w = .ok (.bool (!e)) w := by
  have fin : ∀ {u s : Value} {e : Bool}, (Op.equal t u s).run P w = .ok e w → (binOp .eql t u s = do pure (.bool (← Op.equal t u s))) → (binOp .neq t u s = do pure (.bool (!(← Op.equal t u s)))) → (binOp .eql t u s).run P w = .ok (.bool e) w ∧ (binOp .neq t u s).run P w = .ok (.bool (!e)) w := fun h1 h2 h3 => by
    refine ⟨?_, ?_⟩
    · rw [h2]; simp [h1]
    · rw [h3]; simp [h1]
  cases x with
  | c a =>
    cases y with
    | c b =>
      obtain ⟨ag, sz, z, k, c, h1, h2⟩ := ti_inv (f := fun _ _ _ k => eqA k a b) h
      have ht := htt _ _ _ _ _ _ h1
      have hx' : AR φ a u := hx
      have hy' : AR φ b s := hy
      obtain ⟨n, hn⟩ := maxD
      cases k with
      | sl el =>
        have hu : P.underlying t = some (.slice el) := ht.kd
        have h3 : nilQ a b = some e := h2
        have hrun : ∀ {p q : Option Addr} {l m c d : Nat}, (p = none ∨ q = none) → (Op.equal t (.slice p l c) (.slice q m d)).run P w = .ok (p.isNone && q.isNone) w := fun {p q l m c d} hpq => by
          unfold Op.equal
          rw [hn]
          unfold Op.equalIn
          simp only [Sem.run_bind, run_underlying hu, Result.andThen_ok]
          rcases hpq with rfl | rfl
          · cases q <;> rfl
          · cases p <;> rfl
        rcases nQ_inv h3 with ⟨rfl, h4⟩ | ⟨b1, o1, n1, k1, c1, rfl, h4⟩
        · have e1 : u = .slice none 0 0 := hx'
          subst e1
          rcases nQ_inv h4 with ⟨rfl, h5⟩ | ⟨b2, o2, n2, k2, c2, rfl, h5⟩
          · have e2 : s = .slice none 0 0 := hy'
            subst e2
            cases h5
            have h6 := hrun (p := none) (q := none) (l := 0) (m := 0) (c := 0) (d := 0) (.inl rfl)
            exact ⟨h6, fun op a b => by cases op <;> rfl, fin h6 rfl rfl⟩
          · obtain ⟨ga, pa, ta, ca, o2', _, e2, _⟩ := hy'
            subst e2
            cases h5
            have h6 := hrun (p := none) (q := some ⟨ga, pa + o2', none⟩) (l := 0) (m := n2) (c := 0) (d := ca) (.inl rfl)
            exact ⟨h6, fun op a b => by cases op <;> rfl, fin h6 rfl rfl⟩
        · obtain ⟨ga, pa, ta, ca, o1', _, e1, _⟩ := hx'
          subst e1
          rcases nQ_inv h4 with ⟨rfl, h5⟩ | ⟨b2, o2, n2, k2, c2, rfl, h5⟩
          · have e2 : s = .slice none 0 0 := hy'
            subst e2
            cases h5
            have h6 := hrun (p := some ⟨ga, pa + o1', none⟩) (q := none) (l := n1) (m := 0) (c := ca) (d := 0) (.inr rfl)
            exact ⟨h6, fun op a b => by cases op <;> rfl, fin h6 rfl rfl⟩
          · cases h5
      | pt =>
        obtain ⟨el, hu⟩ := ht.kd
        have h3 : nilP a b = some e := h2
        obtain ⟨i1, h4, h5⟩ := ob_inv h3
        obtain ⟨i2, h6, h7⟩ := ob_inv h5
        have hp : ∀ {a : A} {i : Bool} {u : Value}, is0 a = some i → AR φ a u → ∃ p : Option Addr, u = .pointer p ∧ p.isNone = i := fun {a i u} h1 h2 => by
          cases a <;> first | cases h1 | skip
          · exact ⟨none, h2, rfl⟩
          · obtain ⟨_, _, _, _, e⟩ := h2
            exact ⟨_, e, rfl⟩
        obtain ⟨p, rfl, e1⟩ := hp h4 hx'
        obtain ⟨q, rfl, e2⟩ := hp h6 hy'
        have h8 : (Op.equal t (.pointer p) (.pointer q)).run P w = .ok e w := by
          unfold Op.equal
          rw [hn]
          unfold Op.equalIn
          simp only [Sem.run_bind, run_underlying hu, Result.andThen_ok]
          subst e1; subst e2
          cases p with
          | none => cases q <;> (cases h7; rfl)
          | some p => cases q with
            | none => cases h7; rfl
            | some q => cases h7
        refine ⟨h8, fun op a b => by cases op <;> rfl, fin h8 ?_ ?_⟩ <;> (cases p <;> cases q <;> first | rfl | (subst e1; subst e2; cases h7))
      | _ => cases h2
    | _ => cases h
  | g r =>
    cases y with
    | g r2 =>
      obtain ⟨c, h1, h2⟩ := ob_inv (o := tc tt t) h
      obtain ⟨l1, h2⟩ := ite_inv h2
      obtain ⟨l2, h2⟩ := ite_inv h2
      obtain ⟨i, h3, h4⟩ := ob_inv h1
      cases i with
      | mk ag sz z k c' =>
        cases c' with
        | nil => cases h4
        | cons x l =>
          cases h4
          have ht := htt _ _ _ _ _ _ h3
          obtain ⟨vs, rfl, h5⟩ := g_ok hx
          obtain ⟨us, rfl, h6⟩ := g_ok hy
          rw [R.list_eq, R.list_eq, List.append_nil, List.append_nil] at h2
          have l1 := Nat.eq_of_beq_eq_true l1
          have l2 := Nat.eq_of_beq_eq_true l2
          rw [R.size_eq h5.1] at l1
          rw [R.size_eq h6.1] at l2
          obtain ⟨k1, k2⟩ := ht.eq (by simp) w φ _ _ _ _ e h5.2 h6.2 l1 l2 h2
          refine ⟨k1, fun op a b => ?_, fin k1 rfl rfl⟩
          cases op <;> first | rfl | (simp [eqGuard, program, Sem.run, k2])
    | _ => cases h
  | _ => cases h
theorem s_bin {op : BinOp} {t t2 : TypeId} {x y : Operand} (htt : TtS P tt) (h : oBin op t x y t2 tt ty f W = .ok v W') (hx : EvR φ f ρ x) (hy : EvR φ f ρ y) (H : HR φ w0 W w) : OpS P φ w0 W v W' ((execOp ρ ⟨d, .binOp op t x y t2, ty, ps, af, g⟩).run P w) := by
  refine rA_ok h H fun a h1 => ?_
  obtain ⟨p, h2, h3⟩ := ob_inv h1
  obtain ⟨q, h4, h5⟩ := ob_inv h3
  have e1 := hx _ h2
  have e2 := hy _ h4
  have viaE : (ob (eqV tt t p q) fun e => bopV op e) = some a → ∃ u, (execOp ρ ⟨d, .binOp op t x y t2, ty, ps, af, g⟩).run P w = .ok (.value u) w ∧ AR φ a u := fun h => by
    obtain ⟨e, h6, h7⟩ := ob_inv h
    obtain ⟨_, k2, k3, k4⟩ := eqV_ok (w := w) htt e1 e2 h6
    rcases bopV_ok h7 with ⟨rfl, rfl⟩ | ⟨rfl, rfl⟩
    · exact ⟨.bool e, by simp only [execOp, Sem.run_bind, k2, Result.andThen_ok, k3]; rfl, rfl⟩
    · exact ⟨.bool (!e), by simp only [execOp, Sem.run_bind, k2, Result.andThen_ok, k4]; rfl, rfl⟩
  cases p with
  | c pa =>
    cases pa with
    | i k n =>
      obtain ⟨qa, rfl, h6⟩ := nC_inv (f := fun b => b.nI (fun k2 m => bint op k n k2 m) none) h5
      obtain ⟨k2, m, rfl, h7⟩ := nI_inv h6
      obtain ⟨hn, e3⟩ := c_ok e1
      obtain ⟨hm, e4⟩ := c_ok e2
      obtain ⟨u, h8, h9⟩ := bint_ok (P := P) (w := w) (φ := φ) (t := t) hn hm h7
      refine ⟨u, ?_, h9⟩
      simp only [execOp, e3, e4, Sem.run_bind, V.run_eqGuard_int, Result.andThen_ok, h8]; rfl
    | _ => exact viaE h5
  | _ => exact viaE h5
theorem s_un {op : UnOp} {t : TypeId} {x : Operand} (h : oUn op t x tt ty f W = .ok v W') (hx : EvR φ f ρ x) (H : HR φ w0 W w) : OpS P φ w0 W v W' ((execOp ρ ⟨d, .unOp op t x, ty, ps, af, g⟩).run P w) := by
  refine rA_ok h H fun a h1 => ?_
  obtain ⟨p, h2, h3⟩ := ob_inv h1
  have e1 := hx _ h2
  cases op with
  | neg =>
    obtain ⟨b, rfl, h4⟩ := nC_inv (f := fun a => a.nI (fun k n => iK k (Nat.mod (Nat.sub (md k) n) (md k))) none) h3
    obtain ⟨k, n, rfl, h5⟩ := nI_inv h4
    obtain ⟨hn, e2⟩ := c_ok e1
    cases h5
    exact ⟨_, by simp only [execOp, e2, Op.unary, Op.intArith]; rfl, Nat.mod_lt _ (md_pos k), by rw [neg_ok k n hn]⟩
  | xor =>
    obtain ⟨b, rfl, h4⟩ := nC_inv (f := fun a => a.nI (fun k n => iK k (Nat.sub (Nat.sub (md k) 1) n)) none) h3
    obtain ⟨k, n, rfl, h5⟩ := nI_inv h4
    obtain ⟨hn, e2⟩ := c_ok e1
    cases h5
    exact ⟨_, by simp only [execOp, e2, Op.unary, Op.intBits]; rfl, (by have := md_pos k; show md k - 1 - n < md k; omega), by rw [not_ok hn]⟩
  | not =>
    obtain ⟨b, rfl, h4⟩ := nC_inv (f := fun a => a.nB (fun b => bK (ite' b false true)) none) h3
    obtain ⟨x, rfl, h5⟩ := nB_inv h4
    have e2 := c_ok e1
    have e3 : ρ _ = .bool x := e2
    refine ⟨.bool (!x), by simp only [execOp, e3, Op.unary]; rfl, ?_⟩
    cases x <;> (cases h5; rfl)
  | plus => cases h3
theorem s_ext {x : Operand} {i : Nat} (h : oExt x i tt ty f W = .ok v W') (hx : EvR φ f ρ x) (H : HR φ w0 W w) : OpS P φ w0 W v W' ((execOp ρ ⟨d, .extract x i, ty, ps, af, g⟩).run P w) := by
  refine rv_ok h H fun a h1 => ?_
  obtain ⟨p, h2, h3⟩ := ob_inv h1
  have e1 := hx _ h2
  have key : ∀ (p : V) (l : List Value) (i : Nat) (a : V), VL φ p l → p.ext i = some a → ∃ u, l[i]? = some u ∧ CR φ a u := by
    intro p
    induction p with
    | c _ => intro l i a h; cases h
    | g _ => intro l i a h; cases h
    | un => intro l i a _ h; cases h
    | k x y _ ih =>
      intro l i a h h2
      obtain ⟨u, m, rfl, h3, h4⟩ := h
      cases i with
      | zero => cases h2; exact ⟨u, rfl, h3⟩
      | succ i => exact ih m i a h4 h2
  cases p with
  | k x y =>
    obtain ⟨l, e2, h4⟩ := e1
    obtain ⟨u, h5, h6⟩ := key _ _ _ _ h4 h3
    refine ⟨u, by simp [execOp, e2, Instr.extract, h5], ?_⟩
    cases a <;> first | exact h6 | exact h6.elim
  | _ => cases h3
theorem s_fa {t : TypeId} {x : Operand} {i : Nat} (htt : TtS P tt) (h : oFA t x i tt ty f W = .ok v W') (hx : EvR φ f ρ x) (H : HR φ w0 W w) : OpS P φ w0 W v W' ((execOp ρ ⟨d, .fieldAddr t x i, ty, ps, af, g⟩).run P w) := by
  refine rv_ok h H fun a h1 => ?_
  obtain ⟨ag, sz, z, l, c, o, u, h2, h3, h4⟩ := fld_inv h1
  obtain ⟨ag2, sz2, z2, k2, c2, h5, h6⟩ := ti_inv h4
  obtain ⟨h7, h8⟩ := ite_inv2 h6
  obtain ⟨p, h9, h10⟩ := ob_inv h8
  obtain ⟨b, q, rfl, h11⟩ := addr_inv h10
  cases h11
  obtain ⟨gb, og, tg, e1, e2⟩ := c_ok (hx _ h9)
  obtain ⟨fs, fd, k1, k3, k4, k5⟩ := st_field (htt _ _ _ _ _ _ h2).kd h3
  obtain ⟨inf, zv, m1, m2, _⟩ := (htt _ _ _ _ _ _ h5).info
  have hsz : inf.size ≠ 0 := by
    rw [m2]; intro e; subst e; cases h7
  refine ⟨.pointer (some ⟨gb, og + (q + o), none⟩), ?_, gb, og, tg, e1, rfl⟩
  have hf := V.fieldAt_of (P := P) (s := t) (f := i) (off := o) k1 k3 (by rw [k5]; exact m1) hsz k4
  have hr := hf w ⟨gb, og + q, none⟩
  rw [V.add_lit, Nat.add_assoc] at hr
  simp only [execOp, e2, Sem.run_bind, hr, Result.andThen_ok]; rfl
/-- A part of a value. -/
theorem out_ok {t : TypeId} {ag : Bool} {sz o : Nat} {z : R} {k : Kd} {c : List (Option IntKind)} (ht : TiS P t ag sz z k c) {r : R} {l : List Value} {a : V} (hr : RR φ r l) (h : out ag r o sz = some a) : ∃ u, (part t l.toArray o).run P w = .ok u w ∧ VR φ a u := by
  cases ag with
  | true =>
    obtain ⟨s, h1, h2⟩ := ob_inv (o := r.sub o sz) (f := fun x => some (V.g x)) h
    cases h2
    obtain ⟨s1, s2, s3⟩ := sub_spec hr.1 h1
    refine ⟨.agg ((l.drop o).take sz).toArray, ?_, _, rfl, s1, by rw [s2]; exact (hr.2.drop o).take sz⟩
    simp only [part, Sem.run_bind, ht.agg, Result.andThen_ok, if_true, ht.size, Sem.run_pure]
    congr 2
    apply Array.ext'
    simp [List.extract, Nat.add_sub_cancel_left]
  | false =>
    obtain ⟨s, h1, h2⟩ := ob_inv (o := r.get o) (f := fun x => some (V.c x)) h
    cases h2
    rw [get_spec hr.1] at h1
    obtain ⟨u, h3, h4⟩ := hr.2.get o s h1
    refine ⟨u, ?_, h4⟩
    have : l.toArray[o]? = some u := by simpa using h3
    simp only [part, Sem.run_bind, ht.agg, Result.andThen_ok, Bool.false_eq_true, if_false, this, Sem.run_pure]
theorem s_fld {t : TypeId} {x : Operand} {i : Nat} (htt : TtS P tt) (h : oFld t x i tt ty f W = .ok v W') (hx : EvR φ f ρ x) (H : HR φ w0 W w) : OpS P φ w0 W v W' ((execOp ρ ⟨d, .field t x i, ty, ps, af, g⟩).run P w) := by
  refine rv_ok h H fun a h1 => ?_
  obtain ⟨ag, sz, z, l, c, o, u, h2, h3, h4⟩ := fld_inv h1
  obtain ⟨ag2, sz2, z2, k2, c2, h5, h6⟩ := ti_inv h4
  obtain ⟨p, h7, h8⟩ := ob_inv h6
  obtain ⟨r, rfl, h9⟩ := nG_inv h8
  obtain ⟨vs, e1, e2⟩ := g_ok (hx _ h7)
  obtain ⟨fs, fd, k1, k3, k4, k5⟩ := st_field (htt _ _ _ _ _ _ h2).kd h3
  obtain ⟨q, m1, m2⟩ := out_ok (P := P) (w := w) (htt _ _ _ _ _ _ h5) e2 h9
  refine ⟨q, ?_, m2⟩
  subst k4; subst k5
  simp [execOp, e1, Instr.field, run_underlying k1, k3, asAgg, m1]
theorem nat_inv {β : Type} {v : V} {f : Nat → Option β} {y : β} (h : v.nat f = some y) : ∃ k n, v = .c (.i k n) ∧ nng k n = true ∧ f n = some y := by
  obtain ⟨a, rfl, h1⟩ := nC_inv h
  obtain ⟨k, n, rfl, h2⟩ := nI_inv h1
  obtain ⟨h3, h4⟩ := ite_inv h2
  exact ⟨k, n, rfl, h3, h4⟩
theorem nat_ok {k : IntKind} {n : Nat} {u : Value} (h : VR φ (.c (.i k n)) u) (hn : nng k n = true) : u = .int k (n : Int) := by
  obtain ⟨_, e⟩ := c_ok h
  rw [e, nng_iff hn]
theorem s_ia {t : TypeId} {x y : Operand} (htt : TtS P tt) (h : oIA t x y tt ty f W = .ok v W') (hx : EvR φ f ρ x) (hy : EvR φ f ρ y) (H : HR φ w0 W w) : OpS P φ w0 W v W' ((execOp ρ ⟨d, .indexAddr t x y, ty, ps, af, g⟩).run P w) := by
  refine rv_ok h H fun a h1 => ?_
  obtain ⟨p, h2, h3⟩ := ob_inv h1
  obtain ⟨q, h4, h5⟩ := ob_inv h3
  obtain ⟨k, i, rfl, hi, h6⟩ := nat_inv h5
  obtain ⟨pa, rfl, h7⟩ := nC_inv h6
  obtain ⟨ag, sz, z, kd, c, h8, h9⟩ := ti_inv h7
  have e1 := nat_ok (hy _ h4) hi
  have e2 := c_ok (hx _ h2)
  have ht := htt _ _ _ _ _ _ h8
  rcases el_inv h9 with ⟨l, _, h10⟩ | ⟨n, e, rfl, h10⟩ | ⟨e, rfl, h10⟩
  · cases h10
  · obtain ⟨h11, h12⟩ := ite_inv h10
    obtain ⟨ag2, sz2, z2, k2, c2, h13, h14⟩ := ti_inv h12
    obtain ⟨b, o, rfl, h15⟩ := nP_inv h14
    cases h15
    obtain ⟨gb, og, tg, e3, e4⟩ := e2
    have hu : P.underlying t = some (.array n e) := ht.kd
    have hlt : i < n := Nat.le_of_ble_eq_true h11
    refine ⟨.pointer (some ⟨gb, og + (o + i * sz2), none⟩), ?_, gb, og, tg, e3, rfl⟩
    have hs := (htt _ _ _ _ _ _ h13).size w
    simp [execOp, e1, e4, Instr.indexAt, asIntOf, run_underlying hu, Instr.sureAddr, hs, V.add_lit, Nat.add_assoc]
    intro hn
    omega
  · obtain ⟨ag2, sz2, z2, k2, c2, h13, h14⟩ := ti_inv h10
    rcases nQ_inv h14 with ⟨_, h15⟩ | ⟨b, o, n, kn, cp, rfl, h15⟩
    · cases h15
    · obtain ⟨h16, h17⟩ := ite_inv h15
      cases h17
      obtain ⟨gb, og, tg, cap, o', e3, e4, e5, _, _, _, e6⟩ := e2
      have hu : P.underlying t = some (.slice e) := ht.kd
      have hlt : i < n := Nat.le_of_ble_eq_true h16
      have e7 : o = o' := by
        rcases e6 with e6 | e6
        · omega
        · exact e6
      subst e7
      refine ⟨.pointer (some ⟨gb, og + (o + i * sz2), none⟩), ?_, gb, og, tg, e3, rfl⟩
      have hr := V.run_indexAt (P := P) (w := w) (k := k) (iv := (i : Int)) (ad := ⟨gb, og + o, none⟩) (n := n) (c := cap) hu (htt _ _ _ _ _ _ h13).size (by omega) (by omega)
      rw [V.add_lit, Int.toNat_natCast, Nat.add_assoc] at hr
      simp only [execOp, e1, e4, Sem.run_bind, hr, Result.andThen_ok]; rfl
theorem s_ix {t : TypeId} {x y : Operand} (htt : TtS P tt) (h : oIx t x y tt ty f W = .ok v W') (hx : EvR φ f ρ x) (hy : EvR φ f ρ y) (H : HR φ w0 W w) : OpS P φ w0 W v W' ((execOp ρ ⟨d, .index t x y, ty, ps, af, g⟩).run P w) := by
  refine rv_ok h H fun a h1 => ?_
  obtain ⟨p, h2, h3⟩ := ob_inv h1
  obtain ⟨q, h4, h5⟩ := ob_inv h3
  obtain ⟨k, i, rfl, hi, h6⟩ := nat_inv h5
  obtain ⟨r, rfl, h7⟩ := nG_inv h6
  obtain ⟨ag, sz, z, kd, c, h8, h9⟩ := ti_inv h7
  have e1 := nat_ok (hy _ h4) hi
  obtain ⟨vs, e2, e3⟩ := g_ok (hx _ h2)
  have ht := htt _ _ _ _ _ _ h8
  rcases el_inv h9 with ⟨l, _, h10⟩ | ⟨n, e, rfl, h10⟩ | ⟨e, _, h10⟩
  · cases h10
  · obtain ⟨h11, h12⟩ := ite_inv h10
    obtain ⟨ag2, sz2, z2, k2, c2, h13, h14⟩ := ti_inv h12
    have hu : P.underlying t = some (.array n e) := ht.kd
    have hlt : i < n := Nat.le_of_ble_eq_true h11
    obtain ⟨q, m1, m2⟩ := out_ok (P := P) (w := w) (htt _ _ _ _ _ _ h13) e3 h14
    refine ⟨q, ?_, m2⟩
    have hs := (htt _ _ _ _ _ _ h13).size w
    have m1' : (part e vs.toArray (i * sz2)).run P w = .ok q w := m1
    simp [execOp, e1, e2, Instr.index, asIntOf, run_underlying hu, hs, m1']
    intro hn
    omega
  · cases h10
theorem addrs_ok : ∀ (l : List Operand) (x : List (P4 × Nat)), (∀ o ∈ l, EvR φ f ρ o) → addrs f l = some x → All2 (PR φ) x (l.map ρ)
  | [], _, _, h => by cases h; exact .nil
  | o :: l, x, hl, h => by
    obtain ⟨p, h1, h2⟩ := ob_inv (o := ev f o) h
    obtain ⟨b, q, rfl, h3⟩ := addr_inv h2
    obtain ⟨s, h4, h5⟩ := ob_inv (o := addrs f l) h3
    cases h5
    exact .cons (c_ok (hl o List.mem_cons_self _ h1)) (addrs_ok l s (fun o ho => hl o (List.mem_cons_of_mem _ ho)) h4)
theorem s_mkf {fn : Fn} {x y : Array Operand} (h : oMkF fn x y tt ty f W = .ok v W') (hx : ∀ o ∈ x.toList, EvR φ f ρ o) (hy : ∀ o ∈ y.toList, EvR φ f ρ o) (H : HR φ w0 W w) : OpS P φ w0 W v W' ((execOp ρ ⟨d, .makeFunc fn x y, ty, ps, af, g⟩).run P w) := by
  refine rA_ok h H fun a h1 => ?_
  cases fn with
  | func i =>
    obtain ⟨p, h2, h3⟩ := ob_inv (o := addrs f x.toList) h1
    obtain ⟨q, h4, h5⟩ := ob_inv (o := addrs f y.toList) h3
    cases h5
    refine ⟨.func (.func i) (x.map ρ) (y.map ρ), by simp [execOp, Instr.makeFunc], _, _, rfl, ?_, ?_⟩
    · rw [Array.toList_map]; exact addrs_ok _ _ hx h2
    · rw [Array.toList_map]; exact addrs_ok _ _ hy h4
  | _ => cases h1
end
end I
end Go.Proofs.YtladkmnfmpojiaaGreatDoor
namespace Go.Proofs.YtladkmnfmpojiaaGreatDoor
namespace I
section
variable {P : Program} {tt : T Ti} {φ : Ph} {w0 w : World} {W W' : I.W} {f : T V} {ρ : Operand → Value} {v : V} {ty : TypeId} {d : Option Tmp} {ps : String} {af : Array Edge} {g : Option (Nat × Bool)}
/-! ### Loads and stores -/
theorem ld_ok {t : TypeId} {ag : Bool} {sz : Nat} {z : R} {k : Kd} {c : List (Option IntKind)} (ht : TiS P t ag sz z k c) {a : V} {u : Value} (ha : VR φ a u) (H : HR φ w0 W w) (h : ite' ag (W.ldn a sz) (W.ld1 a) = some v) : ∃ ad s, u = .pointer (some ad) ∧ (loadVar t ad).run P w = .ok s w ∧ VR φ v s := by
  cases ag with
  | true =>
    obtain ⟨b, o, rfl, h1⟩ := addr_inv (f := fun b o => W.blk b fun r _ _ => ob (r.sub o sz) fun x => some (V.g x)) h
    obtain ⟨r, tok, ro, h2, h3⟩ := blk_inv (f := fun r _ _ => ob (r.sub o sz) fun x => some (V.g x)) h1
    obtain ⟨s, h4, h5⟩ := ob_inv h3
    cases h5
    obtain ⟨gb, og, tg, e1, e2⟩ := c_ok ha
    obtain ⟨l, l1, l2, l3⟩ := H.rd e1 h2 h4
    refine ⟨_, .agg l.toArray, e2, ?_, l, rfl, l2⟩
    have hr := V.run_loadN (P := P) (w := w) (ad := ⟨gb, og + o, none⟩) (vs := l) ht.agg ht.size l1 l3
    simpa [Instr.loadAt, Instr.sureAddr] using hr
  | false =>
    obtain ⟨b, o, rfl, h1⟩ := addr_inv (f := fun b o => W.blk b fun r _ _ => ob (r.get o) fun a => some (V.c a)) h
    obtain ⟨r, tok, ro, h2, h3⟩ := blk_inv (f := fun r _ _ => ob (r.get o) fun a => some (V.c a)) h1
    obtain ⟨s, h4, h5⟩ := ob_inv h3
    cases h5
    obtain ⟨gb, og, tg, e1, e2⟩ := c_ok ha
    obtain ⟨q, l1, l2⟩ := H.rd1 e1 h2 h4
    refine ⟨_, q, e2, ?_, l1⟩
    have hr := V.run_load1 (P := P) (w := w) (ad := ⟨gb, og + o, none⟩) (v := q) ht.agg l2
    simpa [Instr.loadAt, Instr.sureAddr] using hr
theorem s_load {t : TypeId} {x : Operand} (htt : TtS P tt) (h : oLoad t x tt ty f W = .ok v W') (hx : EvR φ f ρ x) (H : HR φ w0 W w) : OpS P φ w0 W v W' ((execOp ρ ⟨d, .load t x, ty, ps, af, g⟩).run P w) := by
  refine rv_ok h H fun a h1 => ?_
  obtain ⟨p, h2, h3⟩ := ob_inv h1
  obtain ⟨ag, sz, z, k, c, h4, h5⟩ := ti_inv h3
  obtain ⟨ad, s, e1, e2, e3⟩ := ld_ok (htt _ _ _ _ _ _ h4) (hx _ h2) H h5
  exact ⟨s, by simp [execOp, e1, Instr.loadAt, Instr.sureAddr, e2], e3⟩
theorem s_store {t : TypeId} {x y : Operand} (htt : TtS P tt) (h : oStore t x y tt ty f W = .ok v W') (hx : EvR φ f ρ x) (hy : EvR φ f ρ y) (H : HR φ w0 W w) : OpS P φ w0 W v W' ((execOp ρ ⟨none, .store t x y, ty, ps, af, g⟩).run P w) := by
  obtain ⟨h1, rfl⟩ := rW_inv h
  obtain ⟨p, h2, h3⟩ := ob_inv h1
  obtain ⟨q, h4, h5⟩ := ob_inv h3
  obtain ⟨ag, sz, z, k, c, h6, h7⟩ := ti_inv h5
  have ht := htt _ _ _ _ _ _ h6
  have fin : ∀ {gb o : Nat} {vs : List Value} {w' : World}, ρ x = .pointer (some ⟨gb, o, none⟩) → (ρ y).cells = vs.toArray → vs.length = sz → (storeCells ⟨gb, o, none⟩ vs).run P w = .ok () w' → (execOp ρ ⟨none, .store t x y, ty, ps, af, g⟩).run P w = .ok .skip w' := fun e1 e2 e3 e4 => by
    subst e3
    simp only [execOp, e1, Instr.storeAt, Instr.sureAddr, storeVar, Sem.run_bind, Sem.run_pure, Result.andThen_ok, ht.size, e2, List.size_toArray]
    simp [e4]
  cases q with
  | c a =>
    obtain ⟨h8, h9⟩ := ite_inv (c := Nat.beq sz 1) h7
    have h8 := Nat.eq_of_beq_eq_true h8
    obtain ⟨b, o, rfl, h10⟩ := addr_inv (f := fun b o => W.blk b fun r t ro => ite' ro none (ob (r.set o a) fun y => W.put b (.mk y t ro) some)) h9
    obtain ⟨r, tok, ro, h11, h12⟩ := blk_inv (f := fun r t ro => ite' ro none (ob (r.set o a) fun y => W.put b (.mk y t ro) some)) h10
    obtain ⟨rfl, h13⟩ := ite_inv2 h12
    obtain ⟨r', h14, h15⟩ := ob_inv h13
    obtain ⟨gb, og, tg, e1, e2⟩ := c_ok (hx _ h2)
    have e3 := c_ok (hy _ h4)
    obtain ⟨w', k1, W2, k2, k3, k4⟩ := H.st1 P e1 h11 e3 h14
    rw [k2] at h15
    cases h15
    exact ⟨undef, w', φ, .inr ⟨fin e2 (one_cells e3.one) (by rw [h8]; rfl) k1, rfl⟩, rfl, k3, k4⟩
  | g s =>
    obtain ⟨b, o, rfl, h10⟩ := addr_inv (f := fun b o => W.blk b fun r t ro => ite' ro none (ite' (Nat.beq s.size sz) (ob (r.put o sz s) fun y => W.put b (.mk y t ro) some) none)) h7
    obtain ⟨r, tok, ro, h11, h12⟩ := blk_inv (f := fun r t ro => ite' ro none (ite' (Nat.beq s.size sz) (ob (r.put o sz s) fun y => W.put b (.mk y t ro) some) none)) h10
    obtain ⟨rfl, h13⟩ := ite_inv2 h12
    obtain ⟨h14, h15⟩ := ite_inv h13
    obtain ⟨r', h16, h17⟩ := ob_inv h15
    obtain ⟨gb, og, tg, e1, e2⟩ := c_ok (hx _ h2)
    obtain ⟨vs, e3, e4⟩ := g_ok (hy _ h4)
    have hlen : s.l.length = sz := by rw [← R.size_eq e4.1]; exact Nat.eq_of_beq_eq_true h14
    obtain ⟨w', k1, W2, k2, k3, k4⟩ := H.stn P e1 h11 e4 hlen h16
    rw [k2] at h17
    cases h17
    exact ⟨undef, w', φ, .inr ⟨fin e2 (by rw [e3]; rfl) (by rw [← e4.2.len, hlen]) k1, rfl⟩, rfl, k3, k4⟩
  | _ => cases h7

/-! ### New blocks -/
theorem new_ok {r : R} {c : Array Value} {E : TypeId} (mk : P4 → V) (H : HR φ w0 W w) (h : (W.new r fun b w => Rs.ok (mk b) w) = .ok v W') (hr : RR φ r c.toList) (hx : Result Next) {u : Value} (he : hx = .ok (.value u) (w.alloc (.cells c E)))
    (hv : ∀ (φ' : Ph) b, φ' b = some (w.heap.size, 0, c.size) → φ.le φ' → VR φ' (mk b) u) : OpS P φ w0 W v W' hx := by
  obtain ⟨b, W2, φ', k1, k2, k3, k4, k5⟩ := H.new (w' := w.alloc (.cells c E)) (c := c) (E := E) (fz := (0, 0)) (r := r) rfl rfl rfl (show w.heap.size ≤ (w.heap.push _).size by simp) (fun q hq => show (w.heap.push _)[q]? = _ by rw [Array.getElem?_push, if_neg (Nat.ne_of_lt hq)]) (heap_alloc_new w _) (.inl rfl) hr.1 (by rw [hr.2.len]; simp) (fun i a ha => by
    obtain ⟨q, h1, h2⟩ := hr.2.get i a ha
    exact ⟨q, by simpa using h1, h2⟩)
  rw [k1] at h
  cases h
  exact ⟨u, _, φ', .inl he, hv φ' b k2 k5, k3, k4⟩
theorem ptr_ok {b : P4} {n : Nat} {φ' : Ph} {t : Nat} (h : φ' b = some (n, 0, t)) : VR φ' (.c (.p b 0)) (.pointer (some ⟨n, 0, none⟩)) := ⟨n, 0, t, h, rfl⟩
theorem zero_ok {t : TypeId} {ag : Bool} {sz : Nat} {z : R} {k : Kd} {c : List (Option IntKind)} (ht : TiS P t ag sz z k c) : ∃ zv, (∀ w, (zeroValue t).run P w = .ok zv w) ∧ RR φ z zv.cells.toList ∧ z.l.length = sz := by
  obtain ⟨i, zv, h1, _, _, h4, h5, h6⟩ := ht.info
  exact ⟨zv, fun w => by simp [zeroValue, typeInfo, h1, h4], h5.mono (noP_le φ), h6⟩
theorem s_alloc {e : TypeId} (htt : TtS P tt) (h : oAlloc e tt ty f W = .ok v W') (H : HR φ w0 W w) : OpS P φ w0 W v W' ((execOp ρ ⟨d, .alloc e, ty, ps, af, g⟩).run P w) := by
  obtain ⟨z, h1, h2⟩ := oR_inv h
  obtain ⟨ag, sz, z', k, c, h3, h4⟩ := ti_inv h1
  cases h4
  obtain ⟨zv, k1, k2, _⟩ := zero_ok (φ := φ) (htt _ _ _ _ _ _ h3)
  refine new_ok (c := zv.cells) (E := e) (fun b => .c (.p b 0)) H h2 k2 _ (u := .pointer (some ⟨w.heap.size, 0, none⟩)) ?_ fun φ' b hb _ => ptr_ok hb
  simp only [execOp, Instr.alloc, k1, newVar, newRow, Sem.run_bind, run_newObj, Result.andThen_ok, Sem.run_pure]; rfl
theorem s_box {e : TypeId} {x : Operand} (h : oBox e x tt ty f W = .ok v W') (hx : EvR φ f ρ x) (H : HR φ w0 W w) : OpS P φ w0 W v W' ((execOp ρ ⟨d, .box e x, ty, ps, af, g⟩).run P w) := by
  obtain ⟨r, h1, h2⟩ := oR_inv h
  obtain ⟨p, h3, h4⟩ := ob_inv h1
  refine new_ok (c := (ρ x).cells) (E := e) (fun b => .c (.p b 0)) H h2 (row_ok (hx _ h3) h4) _ (u := .pointer (some ⟨w.heap.size, 0, none⟩)) ?_ fun φ' b hb _ => ptr_ok hb
  simp only [execOp, Instr.box, newVar, newRow, Sem.run_bind, run_newObj, Result.andThen_ok, Sem.run_pure]; rfl

/-! ### Rows that are built -/
theorem fold_set (off : Nat) : ∀ (vs : List Value) (i : Nat) (cs : Array Value), off + i + vs.length ≤ cs.size → ((vs.zipIdx i).foldl (fun cs p => cs.setIfInBounds (off + p.2) p.1) cs) = (cs.toList.take (off + i) ++ vs ++ cs.toList.drop (off + i + vs.length)).toArray
  | [], i, cs, _ => by simp
  | v :: vs, i, cs, h => by
    simp only [List.zipIdx_cons, List.foldl_cons]
    rw [fold_set off vs (i + 1) _ (by simp at h ⊢; omega)]
    congr 1
    have e := list_seg_step cs.toList (off + i) v vs (by simp at h ⊢; omega)
    simpa [Array.toList_setIfInBounds, Nat.add_assoc] using e
theorem lay_ok {pl : Nat → Option (Nat × Nat)} {gg : Nat → (Nat → Nat → Option R) → Option R} (hg : ∀ i k r, gg i k = some r → ∃ o n, pl i = some (o, n) ∧ k o n = some r) :
    ∀ (l : List (Nat × Operand)) (z r : R) (cs : Array Value), (∀ p ∈ l, EvR φ f ρ p.2) → RR φ z cs.toList → lay f gg l z = some r → ∃ cs', Instr.fill pl cs (l.map fun p => (p.1, ρ p.2)) = some cs' ∧ RR φ r cs'.toList ∧ cs'.size = cs.size
  | [], z, r, cs, _, hz, h => by cases h; exact ⟨cs, rfl, hz, rfl⟩
  | (i, x) :: l, z, r, cs, hl, hz, h => by
    obtain ⟨s, h1, h2⟩ := ob_inv (o := ob (ev f x) V.row) (f := fun r => ob (gg i fun o n => ite' (Nat.beq r.size n) (z.put o n r) none) (lay f gg l)) h
    obtain ⟨p, h3, h4⟩ := ob_inv h1
    obtain ⟨z', h5, h6⟩ := ob_inv h2
    obtain ⟨o, n, h7, h8⟩ := hg _ _ _ h5
    obtain ⟨h9, h10⟩ := ite_inv h8
    have hs := row_ok (hl (i, x) List.mem_cons_self _ h3) h4
    have hn : s.l.length = n := by rw [← R.size_eq hs.1]; exact Nat.eq_of_beq_eq_true h9
    have hvn : (ρ x).cells.size = n := by rw [← Array.length_toList, ← hs.2.len, hn]
    obtain ⟨s1, s2, s3⟩ := put_spec hz.1 hs.1 hn h10
    have hz1 : RR φ z' (cs.toList.take o ++ (ρ x).cells.toList ++ cs.toList.drop (o + n)) := ⟨s1, by rw [s2]; exact ((hz.2.take o).append hs.2).append (hz.2.drop (o + n))⟩
    have hle : o + n ≤ cs.size := by rw [hz.2.len] at s3; simpa using s3
    have hfold : ((ρ x).cells.zipIdx.foldl (fun cs (c, j) => cs.setIfInBounds (o + j) c) cs) = (((ρ x).cells.toList.zipIdx 0).foldl (fun cs p => cs.setIfInBounds (o + p.2) p.1) cs) := by
      rw [← Array.foldl_toList, Array.toList_zipIdx]
    have hlen : (cs.toList.take o ++ (ρ x).cells.toList ++ cs.toList.drop (o + n)).length = cs.size := by
      have := put_len (l := cs.toList) (x := (ρ x).cells.toList) (o := o) (n := n) (by simpa using hvn) (by simpa using hle)
      simpa using this
    obtain ⟨cs', k1, k2, k3⟩ := lay_ok hg l z' r (cs.toList.take o ++ (ρ x).cells.toList ++ cs.toList.drop (o + n)).toArray (fun p hp => hl p (List.mem_cons_of_mem _ hp)) (by simpa using hz1) h6
    refine ⟨cs', ?_, k2, by rw [k3]; simpa using hlen⟩
    simp only [List.map_cons, Instr.fill, h7]
    rw [if_neg (by simp [hvn]; omega), hfold, fold_set o _ 0 cs (by simp [hvn]; omega)]
    simp only [Nat.add_zero, Array.length_toList, hvn]
    exact k1
end
end I
end Go.Proofs.YtladkmnfmpojiaaGreatDoor
namespace Go.Proofs.YtladkmnfmpojiaaGreatDoor
namespace I
section
variable {P : Program} {tt : T Ti} {φ : Ph} {w0 w : World} {W W' : I.W} {f : T V} {ρ : Operand → Value} {v : V} {ty : TypeId} {d : Option Tmp} {ps : String} {af : Array Edge} {g : Option (Nat × Bool)}
theorem plof_get : ∀ {fs : List Field} {pl : List (Nat × Nat)}, V.PlOf P fs = some pl → ∀ {i : Nat} {fd : Field} {inf : TypeInfo}, fs[i]? = some fd → P.info? fd.type = some inf → pl[i]? = some (fd.offset, inf.size)
  | [], pl, h, i, fd, inf, h1, h2 => by simp at h1
  | f0 :: fs, pl, h, i, fd, inf, h1, h2 => by
    simp only [V.PlOf, List.mapM_cons] at h
    cases hi : P.info? f0.type with
    | none => simp [hi] at h
    | some i0 =>
      cases hr : List.mapM (fun f => (P.info? f.type).map fun i => (f.offset, i.size)) fs with
      | none => simp [hi, hr] at h
      | some r =>
        simp [hi, hr] at h
        subst h
        cases i with
        | zero =>
          simp at h1
          subst h1
          rw [hi] at h2
          injection h2 with h2
          subst h2
          rfl
        | succ i => simpa using plof_get (pl := r) hr (by simpa using h1) h2
theorem s_build {t : TypeId} {qs : Array (Nat × Operand)} (htt : TtS P tt) (h : oBuild t qs tt ty f W = .ok v W') (hx : ∀ p ∈ qs.toList, EvR φ f ρ p.2) (H : HR φ w0 W w) : OpS P φ w0 W v W' ((execOp ρ ⟨d, .build t qs, ty, ps, af, g⟩).run P w) := by
  obtain ⟨qs⟩ := qs
  obtain ⟨r, h1, h2⟩ := oR_inv h
  cases h2
  obtain ⟨ag, sz, z, k, c, h3, h4⟩ := ti_inv h1
  have ht := htt _ _ _ _ _ _ h3
  obtain ⟨zv, k1, k2, k3⟩ := zero_ok (φ := φ) ht
  rcases el_inv h4 with ⟨l, rfl, h5⟩ | ⟨m, e, rfl, h5⟩ | ⟨e, _, h5⟩
  · obtain ⟨⟨fs⟩, u1, u2, pl, u3⟩ := ht.kd
    obtain ⟨cs', k4, k5, k6⟩ := lay_ok (φ := φ) (ρ := ρ) (f := f) (pl := (pl[·]?)) (fun i k r hg => by
      obtain ⟨⟨o, u⟩, h6, h7⟩ := ob_inv hg
      rw [nth_eq] at h6
      obtain ⟨ag2, sz2, z2, k2', c2, h8, h9⟩ := ti_inv (f := fun _ n _ _ => k o n) h7
      obtain ⟨fs', fd, q1, q2, q3, q4⟩ := st_field ⟨⟨fs⟩, u1, u2, pl, u3⟩ h6
      rw [u1] at q1
      injection q1 with q1
      injection q1 with q1
      subst q1
      obtain ⟨inf, _, m1, m2, _⟩ := (htt _ _ _ _ _ _ h8).info
      refine ⟨o, sz2, ?_, h9⟩
      have := plof_get u3 (i := i) (fd := fd) (inf := inf) (by simpa using q2) (by rw [q4]; exact m1)
      rw [this, q3, m2]) qs z r zv.cells hx k2 h5
    have hpl := V.run_places (P := P) (w := w) fs pl u3
    have hpl' : ((List.mapM (fun f => Prod.mk f.offset <$> sizeOf f.type) fs : Sem _)).run P w = .ok pl w := hpl
    refine .pure (v' := .agg cs') ?_ ⟨cs'.toList, by simp, k5⟩ H
    have hf : Instr.fill (pl[·]?) zv.cells (qs.map fun p => (p.1, ρ p.2)) = some cs' := k4
    have hu : P.underlying t = some (.struct fs.toArray) := u1
    generalize hvs : (qs.map fun p => (p.1, ρ p.2)) = vs at hf
    simp [execOp, Instr.build, k1, run_underlying hu, hvs, hpl', hf]
  · obtain ⟨ag2, sz2, z2, k2', c2, h8, h9⟩ := ti_inv h5
    have hu : P.underlying t = some (.array m e) := ht.kd
    obtain ⟨cs', k4, k5, k6⟩ := lay_ok (φ := φ) (ρ := ρ) (f := f) (pl := fun i => some (i * sz2, sz2)) (fun i k r hg => by
      obtain ⟨_, h6⟩ := ite_inv hg
      exact ⟨_, _, rfl, h6⟩) qs z r zv.cells hx k2 h9
    refine .pure (v' := .agg cs') ?_ ⟨cs'.toList, by simp, k5⟩ H
    generalize hvs : (qs.map fun p => (p.1, ρ p.2)) = vs at k4
    simp [execOp, Instr.build, k1, run_underlying hu, hvs, (htt _ _ _ _ _ _ h8).size, k4]
  · cases h5
/-- n times a zero value. -/
theorem lrep_get {l : List A} (_ : 0 < l.length) : ∀ (n i : Nat), i < n * l.length → (lrep n l)[i]? = l[i % l.length]? := by
  intro n
  induction n with
  | zero => intro i h; omega
  | succ n ih =>
    intro i h
    simp only [lrep]
    by_cases h1 : i < l.length
    · rw [List.getElem?_append_left h1, Nat.mod_eq_of_lt h1]
    · rw [List.getElem?_append_right (by omega), ih (i - l.length) (by rw [Nat.succ_mul] at h; omega)]
      congr 1
      rw [← Nat.mod_eq_sub_mod (by omega)]
/-- The cells that the model makes. -/
theorem rep_rr {z r : R} {zc : Array Value} {n sz : Nat} (hz : RR φ z zc.toList) (hsz : z.l.length = sz) (hr : r.ok) (hl : r.l = lrep n z.l) : RR φ r (((Array.range (n * sz)).map (zc[· % zc.size]!)).toList) := by
  have hzs : zc.size = sz := by rw [← Array.length_toList, ← hz.2.len, hsz]
  refine ⟨hr, All2.of_get (by rw [hl, lrep_len, hsz]; simp) fun i a u ha hu => ?_⟩
  have hlt : i < n * sz := by
    have := (List.getElem?_eq_some_iff.1 hu).1
    simpa using this
  have hpos : 0 < z.l.length := by
    rw [hsz]
    rcases Nat.eq_zero_or_pos sz with h | h
    · rw [h] at hlt; omega
    · exact h
  rw [hl, lrep_get hpos n i (by rw [hsz]; exact hlt)] at ha
  obtain ⟨q, h1, h2⟩ := hz.2.get _ _ ha
  have : u = q := by
    rw [hsz] at h1
    have h3 : zc[i % sz]? = some q := by simpa using h1
    have h4 : i % sz < zc.size := by rw [hzs]; exact Nat.mod_lt _ (by omega)
    simp only [Array.toList_map, List.getElem?_map, Array.toList_range, List.getElem?_range hlt, Option.map_some] at hu
    injection hu with hu
    rw [← hu, hzs, getElem!_pos zc (i % sz) h4]
    rw [Array.getElem?_eq_getElem h4] at h3
    injection h3
  subst this
  exact h2
theorem q_ok {b : P4} {n : Nat} {φ' : Ph} {k c : Nat} (h : φ' b = some (n, 0, k)) (hk : c ≤ maxLen) {m : Nat} (hm : m ≤ c) : VR φ' (.c (.q b 0 m true c)) (.slice (some ⟨n, 0, none⟩) m c) :=
  ⟨n, 0, k, c, 0, h, rfl, hm, hk, fun _ => rfl, (fun h => by cases h), .inr rfl⟩
theorem s_bslice {t : TypeId} {n : Nat} {qs : Array (Nat × Operand)} (htt : TtS P tt) (hn : n ≤ 1000) (h : oBSlice t n qs tt ty f W = .ok v W') (hx : ∀ p ∈ qs.toList, EvR φ f ρ p.2) (H : HR φ w0 W w) : OpS P φ w0 W v W' ((execOp ρ ⟨d, .buildSlice t n qs, ty, ps, af, g⟩).run P w) := by
  obtain ⟨qs⟩ := qs
  obtain ⟨r, h1, h2⟩ := oR_inv h
  obtain ⟨ag, sz, z, e, c, h3, h4⟩ := elm_inv h1
  obtain ⟨ag2, sz2, z2, k2, c2, h5, h6⟩ := ti_inv h4
  have ht := htt _ _ _ _ _ _ h3
  have ht2 := htt _ _ _ _ _ _ h5
  have hu : P.underlying t = some (.slice e) := ht.kd
  obtain ⟨zv, k3, k4, k5⟩ := zero_ok (φ := φ) ht2
  obtain ⟨zr, q1, q2, q3⟩ := rep_spec (m := sz2) k4.1 64 n (fun z => lay f (fun i h => ite' (Nat.ble (Nat.succ i) n) (h (Nat.mul i sz2) sz2) none) qs z) (by omega)
  rw [q1] at h6
  have hrr := rep_rr k4 k5 q2 q3
  obtain ⟨cs', m1, m2, m3⟩ := lay_ok (φ := φ) (ρ := ρ) (f := f) (pl := fun i => some (i * sz2, sz2)) (fun i k r hg => by
      obtain ⟨_, h6⟩ := ite_inv hg
      exact ⟨_, _, rfl, h6⟩) qs zr r _ hx hrr h6
  refine new_ok (c := cs') (E := e) (fun b => .c (.q b 0 n true n)) H h2 m2 _ (u := .slice (some ⟨w.heap.size, 0, none⟩) n n) ?_ fun φ' b hb _ => q_ok hb (by simp only [maxLen]; omega) (Nat.le_refl _)
  have hle : n * sz2 ≤ 1000 * 10000 := Nat.mul_le_mul hn ht2.small
  generalize hvs : (qs.map fun p => (p.1, ρ p.2)) = vs at m1
  have hlim : ¬ (16777216 < n * sz2) := by omega
  by_cases h0 : n * sz2 = 0
  · have e0 : Array.range 0 = #[] := rfl
    simp only [h0, e0, Array.map_empty] at m1
    simp [execOp, Instr.buildSlice, run_underlying hu, ht2.size, h0, hvs, newRow, e0, m1]
  · simp [execOp, Instr.buildSlice, run_underlying hu, ht2.size, h0, hlim, k3, hvs, newRow]
    rw [m1]
    simp
end
end I
end Go.Proofs.YtladkmnfmpojiaaGreatDoor
namespace Go.Proofs.YtladkmnfmpojiaaGreatDoor
namespace I
section
variable {P : Program} {tt : T Ti} {φ : Ph} {w0 w : World} {W W' : I.W} {f : T V} {ρ : Operand → Value} {v : V} {ty : TypeId} {d : Option Tmp} {ps : String} {af : Array Edge} {g : Option (Nat × Bool)}
theorem lim_le {n : Nat} (h : lim n = true) : n ≤ 1000000 := Nat.le_of_ble_eq_true h
theorem count_ok {x : Operand} {n : Nat} (hx : EvR φ f ρ x) (h : (ob (ev f x) fun v => v.nat fun n => some n) = some n) : ∃ k, ρ x = .int k (n : Int) := by
  obtain ⟨p, h1, h2⟩ := ob_inv h
  obtain ⟨k, m, rfl, h3, h4⟩ := nat_inv h2
  cases h4
  exact ⟨k, nat_ok (hx _ h1) h3⟩
theorem s_mks {t : TypeId} {x y : Operand} (htt : TtS P tt) (h : oMkS t x y tt ty f W = .ok v W') (hx : EvR φ f ρ x) (hy : EvR φ f ρ y) (H : HR φ w0 W w) : OpS P φ w0 W v W' ((execOp ρ ⟨d, .makeSlice t x y, ty, ps, af, g⟩).run P w) := by
  obtain ⟨n, h1, h2⟩ := oR_inv h
  obtain ⟨c, h3, h4⟩ := oR_inv h2
  obtain ⟨h5, h6⟩ := iteR_inv h4
  obtain ⟨h7, h8⟩ := iteR_inv h6
  obtain ⟨r, h9, h10⟩ := oR_inv h8
  obtain ⟨ag, sz, z, e, cs, h11, h12⟩ := elm_inv h9
  obtain ⟨ag2, sz2, z2, k2, c2, h13, h14⟩ := ti_inv h12
  have ht2 := htt _ _ _ _ _ _ h13
  have hu : P.underlying t = some (.slice e) := (htt _ _ _ _ _ _ h11).kd
  obtain ⟨i, zv, k3, k4, k5, k6, k7, k8⟩ := ht2.info
  have hle : n ≤ c := Nat.le_of_ble_eq_true h5
  have hc := lim_le h7
  obtain ⟨zr, q1, q2, q3⟩ := rep_spec (m := sz2) k7.1 64 c some (by omega)
  rw [q1] at h14
  cases h14
  have hrr := rep_rr (φ := φ) (k7.mono (noP_le φ)) k8 q2 q3
  obtain ⟨kx, e1⟩ := count_ok hx h1
  obtain ⟨ky, e2⟩ := count_ok hy h3
  have hb : (i.bytes : Int) * (c : Int) ≤ 281474976710656 := by
    have : i.bytes * c ≤ 65536 * 1000000 := Nat.mul_le_mul k5 hc
    have h : ((i.bytes * c : Nat) : Int) ≤ 281474976710656 := by omega
    rwa [Int.natCast_mul] at h
  have hr := run_make (P := P) w t e i zv hu k3 k6 kx ky n c (by omega) (by omega) hb (by omega)
  refine new_ok (E := e) (fun b => .c (.q b 0 n true c)) H h10 hrr _ (u := .slice (some ⟨w.heap.size, 0, none⟩) n c) ?_ fun φ' b hb _ => q_ok hb (by simp only [maxLen]; omega) hle
  simp only [execOp, e1, e2, Sem.run_bind, hr, Result.andThen_ok, Sem.run_pure]
  simp [madeCells, k4]
theorem bytesR_ok : ∀ (l : List Nat), ∀ r ∈ bytesR l, r.ok
  | [], _, h => by cases h
  | _ :: l, r, h => by
    rcases List.mem_cons.1 h with rfl | h
    · trivial
    · exact bytesR_ok l r h
theorem bytesR_l : ∀ (l : List Nat), lcat (bytesR l) = l.map fun n => A.i .u8 n
  | [] => rfl
  | n :: l => by show [A.i .u8 n] ++ lcat (bytesR l) = _; rw [bytesR_l l]; rfl
theorem s_conv {src dst : TypeId} {x : Operand} (htt : TtS P tt) (h : oConv src dst x tt ty f W = .ok v W') (hx : EvR φ f ρ x) (H : HR φ w0 W w) : OpS P φ w0 W v W' ((execOp ρ ⟨d, .convert src dst x, ty, ps, af, g⟩).run P w) := by
  obtain ⟨_, h1, h2⟩ := oR_inv h
  obtain ⟨ag, sz, z, k, c, h3, _⟩ := ti_inv h1
  obtain ⟨sd, hs⟩ := (htt _ _ _ _ _ _ h3).und
  obtain ⟨p, h4, h5⟩ := oR_inv h2
  obtain ⟨a, rfl, h6⟩ := nCR_inv h5
  obtain ⟨kd, h7, h8⟩ := oR_inv h6
  obtain ⟨ag2, sz2, z2, k2, c2, h9, h10⟩ := ti_inv h7
  cases h10
  have ht := htt _ _ _ _ _ _ h9
  have e1 := c_ok (hx _ h4)
  cases a with
  | i j n =>
    have h8' : kd.int (fun k => fN (conv j k n) fun m => Rs.ok (.c (.i k m)) W) .no = .ok v W' := h8
    cases kd with
    | nt k =>
      cases h8'
      have hu : P.underlying dst = some (.int k) := ht.kd
      obtain ⟨hn, e2⟩ := e1
      refine .pure (v' := .int k (toI k (conv j k n))) ?_ ⟨conv_lt, rfl⟩ H
      simp only [execOp, e2, convert, Sem.run_bind, run_underlying hs, run_underlying hu, Result.andThen_ok, Conv.intToInt, Sem.run_pure, conv_ok hn]
    | _ => cases h8'
  | s l =>
    have h8' : s2b tt W l kd = .ok v W' := h8
    obtain ⟨_, h11, h12⟩ := oR_inv h8'
    rcases el_inv h11 with ⟨_, _, h13⟩ | ⟨_, _, _, h13⟩ | ⟨e, rfl, h13⟩
    · cases h13
    · cases h13
    · obtain ⟨ag3, sz3, z3, k3, c3, h14, h15⟩ := ti_inv h13
      cases k3 <;> first | cases h15 | skip
      rename_i j
      obtain ⟨h16, _⟩ := ite_inv (c := Nat.beq (ikd j) 4) h15
      have hj : j = .u8 := ikd_inj (k := .u8) h16
      subst hj
      have hu : P.underlying dst = some (.slice e) := ht.kd
      have he : P.underlying e = some (.int .u8) := (htt _ _ _ _ _ _ h14).kd
      obtain ⟨s, e2, e3⟩ := e1
      have hr := Lib.run_convert_string_bytes (P := P) w src dst e s hs hu he
      obtain ⟨hlim, h12⟩ := iteR_inv h12
      obtain ⟨r, q1, q2, q3⟩ := cat_spec (bytesR l) (fun r => W.new r fun b w => fN l.length fun n => Rs.ok (.c (.q b 0 n false 1)) w) (bytesR_ok l)
      rw [q1] at h12
      have hlen : l.length = s.size := by rw [← e3, List.length_map, Array.length_toList]; rfl
      have hge := grownCap_ge w s.size 0 e
      have hcs : (Lib.bytesCells w e s).size = grownCap w s.size 0 e := by
        have : s.data.size = s.size := rfl
        simp [Lib.bytesCells]
        omega
      obtain ⟨b, W2, φ', m1, m2, m3, m4, m5⟩ := H.new (w' := Lib.bytesWorld w e s) (E := e) (r := r) rfl rfl rfl (by simp [Lib.bytesWorld, World.freeze]) (fun q hq => Lib.bytesWorld_at_old w e s q hq) (Lib.bytesWorld_at_new w e s) (.inr (Nat.le_refl _)) q2 (by
        rw [q3, bytesR_l, List.length_map, hlen, hcs]; exact hge) (fun i a ha => by
        rw [q3, bytesR_l, List.getElem?_map] at ha
        cases hb : l[i]? with
        | none => rw [hb] at ha; cases ha
        | some n =>
          rw [hb] at ha
          injection ha with ha
          subst ha
          rw [← e3, List.getElem?_map] at hb
          cases hd : s.data.toList[i]? with
          | none => rw [hd] at hb; cases hb
          | some y =>
            rw [hd] at hb
            injection hb with hb
            have hi : i < s.data.size := by
              have := (List.getElem?_eq_some_iff.1 hd).1
              simpa using this
            have hd' : s.data[i]? = some y := by simpa using hd
            refine ⟨.int .u8 y.toNat, ?_, ?_⟩
            · unfold Lib.bytesCells
              rw [Array.getElem?_append_left (by simpa using hi), Array.getElem?_map, hd']
              rfl
            · subst hb
              have := y.toNat_lt
              refine ⟨by show y.toNat < 256; omega, ?_⟩
              show _ = Value.int .u8 (toI .u8 y.toNat)
              rw [nng_iff (by rfl)])
      rw [m1] at h12
      cases h12
      have hmax : grownCap w s.size 0 e ≤ maxLen := grownCap_le_maxLen w s.size 0 e (by have := lim_le hlim; simp only [maxLen]; omega)
      refine ⟨_, _, φ', .inl (by rw [hlen]; simp only [execOp, e2, Sem.run_bind, hr, Result.andThen_ok, Sem.run_pure]), ⟨w.heap.size, 0, _, _, 0, m2, rfl, by rw [hlen]; exact hge, hmax, fun h => (by cases h), fun _ => ⟨by rw [hcs]; omega, Nat.zero_lt_one⟩, .inr rfl⟩, m3, m4⟩
  | _ => cases h8
theorem opt_ok {x : Option Operand} {n dflt : Nat} (hx : ∀ o, x = some o → EvR φ f ρ o) (h : opt f x dflt = some n) : (x = none ∧ n = dflt) ∨ ∃ o k, x = some o ∧ ρ o = .int k (n : Int) := by
  cases x with
  | none => cases h; exact .inl ⟨rfl, rfl⟩
  | some o =>
    obtain ⟨k, e⟩ := count_ok (hx o rfl) h
    exact .inr ⟨o, k, rfl, e⟩
end
end I
end Go.Proofs.YtladkmnfmpojiaaGreatDoor
namespace Go.Proofs.YtladkmnfmpojiaaGreatDoor
namespace I
section
variable {P : Program} {tt : T Ti} {φ : Ph} {w0 w : World} {W W' : I.W} {f : T V} {ρ : Operand → Value} {v : V} {ty : TypeId} {d : Option Tmp} {ps : String} {af : Array Edge} {g : Option (Nat × Bool)}
theorem run_bound {k : IntKind} {i y : Nat} {code : BoundsCode} (h : i ≤ y) : (Instr.sliceBound (.int k (i : Int)) y code).run P w = .ok i w := by
  have : ((i : Int) ≤ (y : Int)) := by omega
  simp [Instr.sliceBound, asIntOf, this]
/-- A slice of a slice, in the model. -/
theorem run_slice {t e : TypeId} {a : Option Addr} {len cap l h m sz : Nat} {lo hi mx : Option Value} (hu : P.underlying t = some (.slice e)) (hs : ∀ w, (sizeOf e).run P w = .ok sz w) (hlh : l ≤ h) (hhm : h ≤ m) (hmc : m ≤ cap)
    (hlo : (lo = none ∧ l = 0) ∨ ∃ k, lo = some (.int k (l : Int))) (hhi : (hi = none ∧ h = len ∧ mx = none) ∨ ∃ k, hi = some (.int k (h : Int))) (hmx : (mx = none ∧ m = cap) ∨ ∃ k, mx = some (.int k (m : Int))) :
    (Instr.slice t (.slice a len cap) lo hi mx).run P w = .ok (.slice (if m = l then a else a.map (·.add (l * sz))) (h - l) (m - l)) w := by
  have hb : (Instr.sliceBounds true len cap lo hi mx).run P w = .ok (l, h, m) w := by
    unfold Instr.sliceBounds
    rcases hmx with ⟨rfl, rfl⟩ | ⟨k, rfl⟩
    · rcases hhi with ⟨rfl, rfl, _⟩ | ⟨k, rfl⟩
      · rcases hlo with ⟨rfl, rfl⟩ | ⟨k, rfl⟩
        · simp
        · simp [run_bound hlh]
      · rcases hlo with ⟨rfl, rfl⟩ | ⟨k', rfl⟩
        · simp [run_bound hhm]
        · simp [run_bound hhm, run_bound hlh]
    · rcases hhi with ⟨rfl, rfl, h0⟩ | ⟨k', rfl⟩
      · cases h0
      · rcases hlo with ⟨rfl, rfl⟩ | ⟨k', rfl⟩
        · simp [run_bound hmc, run_bound hhm]
        · simp [run_bound hmc, run_bound hhm, run_bound hlh]
  simp [Instr.slice, run_underlying hu, hb, hs]
theorem add_zero' (a : Addr) : a.add 0 = a := by simp [Addr.add]
theorem s_slice {t : TypeId} {x : Operand} {lo hi mx : Option Operand} (htt : TtS P tt) (h : oSlice t x lo hi mx tt ty f W = .ok v W') (hx : EvR φ f ρ x) (hlo : ∀ o, lo = some o → EvR φ f ρ o) (hhi : ∀ o, hi = some o → EvR φ f ρ o) (hmx : ∀ o, mx = some o → EvR φ f ρ o) (hform : hi = none → mx = none) (H : HR φ w0 W w) :
    OpS P φ w0 W v W' ((execOp ρ ⟨d, .slice t x lo hi mx, ty, ps, af, g⟩).run P w) := by
  refine rv_ok h H fun r h1 => ?_
  obtain ⟨l, h2, h3⟩ := ob_inv h1
  obtain ⟨p, h4, h5⟩ := ob_inv h3
  obtain ⟨a, rfl, h6⟩ := nC_inv h5
  obtain ⟨ag, sz, z, e, cs, h7, h8⟩ := elm_inv h6
  obtain ⟨ag2, sz2, z2, k2, c2, h9, h10⟩ := ti_inv h8
  have hu : P.underlying t = some (.slice e) := (htt _ _ _ _ _ _ h7).kd
  have hs := (htt _ _ _ _ _ _ h9).size
  have e1 := c_ok (hx _ h4)
  have Lo : (lo.map ρ = none ∧ l = 0) ∨ ∃ k, lo.map ρ = some (.int k (l : Int)) := by
    rcases opt_ok hlo h2 with ⟨rfl, rfl⟩ | ⟨o, k, rfl, e⟩
    · exact .inl ⟨rfl, rfl⟩
    · exact .inr ⟨k, by simp [e]⟩
  have fin : ∀ {u : Value}, (Instr.slice t (ρ x) (lo.map ρ) (hi.map ρ) (mx.map ρ)).run P w = .ok u w → (execOp ρ ⟨d, .slice t x lo hi mx, ty, ps, af, g⟩).run P w = .ok (.value u) w := fun hr => by
    simp only [execOp, Instr.sliceAt, Sem.run_bind, run_underlying hu, Result.andThen_ok, hr]; rfl
  rcases nQ_inv h10 with ⟨rfl, h11⟩ | ⟨b, o, n, kn, cp, rfl, h11⟩
  · obtain ⟨h12, h13⟩ := ite_inv h11
    obtain ⟨h, h14, h15⟩ := ob_inv h13
    obtain ⟨h16, h17⟩ := ite_inv h15
    obtain ⟨m, h18, h19⟩ := ob_inv h17
    obtain ⟨h20, h21⟩ := ite_inv h19
    cases h21
    have l0 := Nat.eq_of_beq_eq_true h12
    have k0 := Nat.eq_of_beq_eq_true h16
    have m0 := Nat.eq_of_beq_eq_true h20
    subst l0; subst k0; subst m0
    have e2 : ρ x = .slice none 0 0 := e1
    refine ⟨.slice none 0 0, fin ?_, rfl⟩
    rw [e2]
    have hr := run_slice (P := P) (w := w) (a := none) (len := 0) (cap := 0) (l := 0) (h := 0) (m := 0) (mx := mx.map ρ) (hi := hi.map ρ) hu hs (Nat.le_refl _) (Nat.le_refl _) (Nat.le_refl _) Lo (by
      rcases opt_ok hhi h14 with ⟨rfl, _⟩ | ⟨o, k, rfl, e⟩
      · rw [hform rfl]; exact .inl ⟨rfl, rfl, rfl⟩
      · exact .inr ⟨k, by simp [e]⟩) (by
      rcases opt_ok hmx h18 with ⟨rfl, _⟩ | ⟨o, k, rfl, e⟩
      · exact .inl ⟨rfl, rfl⟩
      · exact .inr ⟨k, by simp [e]⟩)
    simpa using hr
  · obtain ⟨hh, h12, h13⟩ := ob_inv h11
    obtain ⟨gb, og, tg, cap, o', e2, e3, e4, e5, e6, e7, e8⟩ := e1
    -- what comes of the limits
    have cut : ∀ {kn' : Bool} {c' mm m : Nat} {r : V}, cutQ b o sz2 l hh kn' c' mm = some r → (kn' = true → mm = m) → (kn' = false → kn = false ∧ c' = cp ∧ mm = n ∧ m = cap ∧ cp = sz2) → m ≤ cap →
        ((mx.map ρ = none ∧ m = cap) ∨ ∃ k, mx.map ρ = some (.int k (m : Int))) → ∃ u, (execOp ρ ⟨d, .slice t x lo hi mx, ty, ps, af, g⟩).run P w = .ok (.value u) w ∧ VR φ r u := fun {kn' c' mm m r} hc hk1 hk0 hmc hM => by
      obtain ⟨q1, hc⟩ := ite_inv hc
      obtain ⟨q2, hc⟩ := ite_inv hc
      have hlh : l ≤ hh := Nat.le_of_ble_eq_true q1
      have hhm' : hh ≤ mm := Nat.le_of_ble_eq_true q2
      have hhm : hh ≤ m := by
        cases kn' with
        | true => rw [← hk1 rfl]; exact hhm'
        | false => obtain ⟨_, _, e10, e11, _⟩ := hk0 rfl; omega
      have hr := run_slice (P := P) (w := w) (a := some ⟨gb, og + o', none⟩) (len := n) (cap := cap) (l := l) (h := hh) (m := m) (mx := mx.map ρ) (hi := hi.map ρ) hu hs hlh hhm hmc Lo (by
        rcases opt_ok hhi h12 with ⟨rfl, e⟩ | ⟨o, k, rfl, e⟩
        · rw [hform rfl]; exact .inl ⟨rfl, e, rfl⟩
        · exact .inr ⟨k, by simp [e]⟩) hM
      have hrun := fin (by rw [e3]; exact hr)
      cases kn' with
      | true =>
        have hmm := hk1 rfl
        subst hmm
        cases hc
        refine ⟨_, hrun, ?_⟩
        by_cases hz : mm - l = 0
        · have : mm = l := by omega
          rw [if_pos this]
          exact ⟨gb, og, tg, mm - l, o', e2, rfl, (show hh - l ≤ mm - l by omega), by omega, fun _ => rfl, (fun q => by cases q), .inl hz⟩
        · have hne : ¬ mm = l := by omega
          rw [if_neg hne]
          have hb : Nat.beq (mm - l) 0 = false := by
            cases hb : Nat.beq (mm - l) 0 with
            | false => rfl
            | true => exact absurd (Nat.eq_of_beq_eq_true hb) hz
          have e9 : o = o' := by
            rcases e8 with e8 | e8
            · omega
            · exact e8
          subst e9
          refine ⟨gb, og, tg, mm - l, o + l * sz2, e2, ?_, (show hh - l ≤ mm - l by omega), by omega, fun _ => rfl, (fun q => by cases q), .inr ?_⟩
          · simp [V.add_lit, Nat.add_assoc]
          · show ite' (Nat.beq (mm - l) 0) o (o + l * sz2) = _
            rw [hb]; rfl
      | false =>
        obtain ⟨k1, k2, k3, k4, k5⟩ := hk0 rfl
        subst k2; subst k3; subst k4
        cases hc
        refine ⟨_, hrun, ?_⟩
        obtain ⟨p1, p2⟩ := e7 k1
        by_cases hml : m = l
        · rw [if_pos hml]
          have hz : m - l = 0 := by omega
          exact ⟨gb, og, tg, m - l, o', e2, rfl, (show hh - l ≤ m - l by omega), by omega, (fun q => by cases q), fun _ => ⟨by rw [hz]; omega, p2⟩, .inl hz⟩
        · rw [if_neg hml]
          have e9 : o = o' := by
            rcases e8 with e8 | e8
            · omega
            · exact e8
          subst e9
          have hsl : l * sz2 + (m - l) * sz2 = m * sz2 := by rw [← Nat.add_mul]; congr 1; omega
          refine ⟨gb, og, tg, m - l, o + l * sz2, e2, ?_, (show hh - l ≤ m - l by omega), by omega, (fun q => by cases q), fun _ => ⟨?_, p2⟩, .inr rfl⟩
          · simp [V.add_lit, Nat.add_assoc]
          · show og + (o + l * sz2) + (m - l) * c' ≤ tg
            rw [k5] at p1 ⊢
            omega
    cases mx with
    | none =>
      have h13' : ite' (Nat.beq (ite' kn sz2 cp) sz2) (cutQ b o sz2 l hh kn cp (ite' kn cp n)) none = some r := h13
      obtain ⟨q0, h14⟩ := ite_inv h13'
      cases kn with
      | true => exact cut (kn' := true) (c' := cp) (mm := cp) (m := cap) h14 (fun _ => (e6 rfl).symm) (fun hk => by cases hk) (Nat.le_refl _) (.inl ⟨rfl, rfl⟩)
      | false => exact cut (kn' := false) (c' := cp) (mm := n) (m := cap) h14 (fun hk => by cases hk) (fun _ => ⟨rfl, rfl, rfl, rfl, Nat.eq_of_beq_eq_true q0⟩) (Nat.le_refl _) (.inl ⟨rfl, rfl⟩)
    | some y =>
      have h13' : (ob (ob (ev f y) fun v => v.nat fun n => some n) fun m => ite' (Nat.ble m (ite' kn cp n)) (cutQ b o sz2 l hh true m m) none) = some r := h13
      obtain ⟨m, h14, h15⟩ := ob_inv h13'
      obtain ⟨q1, h16⟩ := ite_inv h15
      have q1 := Nat.le_of_ble_eq_true q1
      obtain ⟨k, e10⟩ := count_ok (hmx y rfl) h14
      refine cut (kn' := true) (c' := m) (mm := m) (m := m) h16 (fun _ => rfl) (fun hk => by cases hk) ?_ (.inr ⟨k, by simp [e10]⟩)
      cases kn with
      | true => have := e6 rfl; simp only [ite_t] at q1; omega
      | false => simp only [ite_f] at q1; omega
end
end I
end Go.Proofs.YtladkmnfmpojiaaGreatDoor
namespace Go.Proofs.YtladkmnfmpojiaaGreatDoor
namespace I
section
variable {P : Program} {tt : T Ti} {φ : Ph} {w0 w : World} {W W' : I.W} {f : T V} {ρ : Operand → Value} {v : V} {ty : TypeId} {d : Option Tmp} {ps : String} {af : Array Edge} {g : Option (Nat × Bool)}
theorem one_inv {α β : Type} {l : List α} {f : α → Option β} {y : β} (h : one l f none = some y) : ∃ x, l = [x] ∧ f x = some y := by
  match l, h with
  | [x], h => exact ⟨x, rfl, h⟩
theorem two_inv {α β : Type} {l : List α} {f : α → α → Option β} {z : β} (h : two l f none = some z) : ∃ x y, l = [x, y] ∧ f x y = some z := by
  match l, h with
  | [x, y], h => exact ⟨x, y, rfl, h⟩
theorem twoR_inv {α : Type} {l : List α} {f : α → α → Rs} (h : two l f .no = .ok v W') : ∃ x y, l = [x, y] ∧ f x y = .ok v W' := by
  match l, h with
  | [x, y], h => exact ⟨x, y, rfl, h⟩
theorem evL_ok : ∀ (l : List Operand) (vs : List V), (∀ o ∈ l, EvR φ f ρ o) → evL f l = some vs → All2 (VR φ) vs (l.map ρ)
  | [], _, _, h => by cases h; exact .nil
  | x :: l, vs, hl, h => by
    obtain ⟨v, h1, h2⟩ := ob_inv (o := ev f x) h
    obtain ⟨us, h3, h4⟩ := ob_inv (o := evL f l) h2
    cases h4
    exact .cons (hl x List.mem_cons_self _ h1) (evL_ok l us (fun o ho => hl o (List.mem_cons_of_mem _ ho)) h3)
theorem all2_one {R : V → Value → Prop} {x : V} {l : List Value} (h : All2 R [x] l) : ∃ u, l = [u] ∧ R x u := by
  cases h with
  | cons h1 h2 => cases h2; exact ⟨_, rfl, h1⟩
theorem all2_two {R : V → Value → Prop} {x y : V} {l : List Value} (h : All2 R [x, y] l) : ∃ u s, l = [u, s] ∧ R x u ∧ R y s := by
  cases h with
  | cons h1 h2 =>
    obtain ⟨s, rfl, h3⟩ := all2_one h2
    exact ⟨_, s, rfl, h1, h3⟩
/-- A built-in function's call. -/
theorem bi_ok {b : Builtin} {args : List Operand} {ats : Array TypeId} {us : List Value} {r : Result Value} (hu : args.map ρ = us) (hb : ∀ (ty : TypeId) (cs : Array Bool), (builtin b ats ty cs us.toArray).run P w = r.andThen fun v w => .ok (.value v) w) :
    (execOp ρ ⟨d, .call { callee := .builtin b, args := args.toArray, argTypes := ats }, ty, ps, af, g⟩).run P w = r.andThen fun v w => .ok (.value v) w := by
  subst hu
  simp only [execOp, resolve, Sem.run_bind, Sem.run_pure, Result.andThen_ok, invoke]
  simpa using hb ty _
theorem len_ok {args : List Operand} {ats : Array TypeId} {vs : List V} (htt : TtS P tt) (hx : ∀ o ∈ args, EvR φ f ρ o) (he : evL f args = some vs) (h : bLen tt ats.toList vs W = .ok v W') (H : HR φ w0 W w) :
    OpS P φ w0 W v W' ((execOp ρ ⟨d, .call { callee := .builtin .len, args := args.toArray, argTypes := ats }, ty, ps, af, g⟩).run P w) := by
  refine rv_ok h H fun a h1 => ?_
  obtain ⟨t, e1, h2⟩ := one_inv h1
  obtain ⟨ag, sz, z, e, c, h3, h4⟩ := elm_inv h2
  obtain ⟨p, rfl, h5⟩ := one_inv h4
  obtain ⟨q, rfl, h6⟩ := nC_inv h5
  have hu : P.underlying t = some (.slice e) := (htt _ _ _ _ _ _ h3).kd
  obtain ⟨s, e2, e3⟩ := all2_one (evL_ok args _ hx he)
  have e4 : ats = #[t] := by apply Array.ext'; rw [e1]
  subst e4
  have key : ∀ {p : Option Addr} {n c : Nat}, s = .slice p n c → (execOp ρ ⟨d, .call { callee := .builtin .len, args := args.toArray, argTypes := #[t] }, ty, ps, af, g⟩).run P w = .ok (.value (.int .i64 (n : Int))) w := fun {p n c} hs => by
    subst hs
    exact bi_ok (r := .ok (.int .i64 (n : Int)) w) e2 fun ty cs => by simp [builtin, Builtin.len_, run_underlying hu, goInt]
  have hn : ∀ {n : Nat}, n ≤ maxLen → AR φ (.i .i64 n) (.int .i64 (n : Int)) := fun {n} h => by
    refine ⟨?_, ?_⟩
    · show n < 18446744073709551616; simp only [maxLen] at h; omega
    · rw [nng_iff]
      show Nat.ble (n.succ) 9223372036854775808 = true
      exact Nat.ble_eq_true_of_le (by simp only [maxLen] at h; omega)
  rcases nQ_inv h6 with ⟨rfl, h7⟩ | ⟨b, o, n, kn, cp, rfl, h7⟩
  · cases h7
    exact ⟨_, key e3, hn (Nat.zero_le _)⟩
  · cases h7
    obtain ⟨gb, og, tg, cap, o', _, e5, e6, e7, _⟩ := c_ok e3
    exact ⟨_, key e5, hn (by omega)⟩
theorem mx_ok {mx : Bool} {args : List Operand} {ats : Array TypeId} {vs : List V} (hx : ∀ o ∈ args, EvR φ f ρ o) (he : evL f args = some vs) (h : bMx mx vs W = .ok v W') (H : HR φ w0 W w) :
    OpS P φ w0 W v W' ((execOp ρ ⟨d, .call { callee := .builtin (if mx = true then .max else .min), args := args.toArray, argTypes := ats }, ty, ps, af, g⟩).run P w) := by
  refine rv_ok h H fun a h1 => ?_
  obtain ⟨p, q, rfl, h2⟩ := two_inv h1
  obtain ⟨x, rfl, h3⟩ := nC_inv h2
  obtain ⟨k, n, rfl, h4⟩ := nI_inv h3
  obtain ⟨y, rfl, h5⟩ := nC_inv h4
  obtain ⟨k2, m, rfl, h6⟩ := nI_inv h5
  obtain ⟨h7, h8⟩ := ite_inv h6
  have := ikd_inj h7
  subst this
  obtain ⟨u, s, e2, e3, e4⟩ := all2_two (evL_ok args _ hx he)
  obtain ⟨hn, e5⟩ := c_ok e3
  obtain ⟨hm, e6⟩ := c_ok e4
  subst e5; subst e6
  cases mx with
  | true =>
    refine ⟨if toI k m > toI k n then .int k (toI k m) else .int k (toI k n), bi_ok (r := .ok _ w) e2 fun ty cs => ?_, ?_⟩
    · simp only [builtin, if_true, Builtin.max_, List.foldlM_cons, List.foldlM_nil, Builtin.max2]
      split <;> simp [*]
    · have h8' : ite' (Nat.ble (Nat.succ (ord k n)) (ord k m)) (some (V.c (.i k m))) (some (V.c (.i k n))) = some a := h8
      cases hb : Nat.ble (Nat.succ (ord k n)) (ord k m) with
      | true =>
        rw [hb] at h8'
        cases h8'
        rw [if_pos ((ord_lt hn hm).2 (Nat.le_of_ble_eq_true hb))]
        exact ⟨hm, rfl⟩
      | false =>
        rw [hb] at h8'
        cases h8'
        rw [if_neg fun h => by rw [Nat.ble_eq_true_of_le ((ord_lt hn hm).1 h)] at hb; cases hb]
        exact ⟨hn, rfl⟩
  | false =>
    refine ⟨if toI k m < toI k n then .int k (toI k m) else .int k (toI k n), bi_ok (r := .ok _ w) e2 fun ty cs => ?_, ?_⟩
    · simp only [builtin, if_false, Bool.false_eq_true, Builtin.min_, List.foldlM_cons, List.foldlM_nil, Builtin.min2]
      split <;> simp [*]
    · have h8' : ite' (Nat.ble (Nat.succ (ord k m)) (ord k n)) (some (V.c (.i k m))) (some (V.c (.i k n))) = some a := h8
      cases hb : Nat.ble (Nat.succ (ord k m)) (ord k n) with
      | true =>
        rw [hb] at h8'
        cases h8'
        rw [if_pos ((ord_lt hm hn).2 (Nat.le_of_ble_eq_true hb))]
        exact ⟨hm, rfl⟩
      | false =>
        rw [hb] at h8'
        cases h8'
        rw [if_neg fun h => by rw [Nat.ble_eq_true_of_le ((ord_lt hm hn).1 h)] at hb; cases hb]
        exact ⟨hn, rfl⟩

/-! ### Appending -/
/-- A part that may be empty. -/
theorem HR.part (H : HR φ w0 W w) {b : P4} {gb p t o n : Nat} {s : R} (hb : φ b = some (gb, p, t)) (h : W.part b o n = some s) : ∃ l : List Value, l.length = n ∧ RR φ s l ∧ ∀ j v, l[j]? = some v → w.cell? ((⟨gb, p + o, none⟩ : Addr).add j) = some v := by
  unfold I.W.part at h
  cases hn : Nat.beq n 0 with
  | true =>
    rw [hn] at h
    cases h
    rw [Nat.eq_of_beq_eq_true hn]
    exact ⟨[], rfl, ⟨trivial, .nil⟩, fun j v hj => by simp at hj⟩
  | false =>
    rw [hn] at h
    obtain ⟨r, tok, ro, h1, h2⟩ := blk_inv (f := fun r _ _ => r.sub o n) h
    exact H.rd hb h1 h2
/-- A row that had no room, or none that the machine knows of: a new block. -/
theorem grown_ok {r : R} {olds news : List Value} {n sz cap : Nat} {zc : Array Value} {e : TypeId} (H : HR φ w0 W w) (hr : RR φ r (olds ++ news)) (hlen : (olds ++ news).length = n * sz) (hz : zc.size = sz) (hcap : n ≤ cap) (hmax : cap ≤ maxLen) (hsz : 0 < sz)
    {x : Result Next} (he : x = .ok (.value (.slice (some ⟨w.heap.size, 0, none⟩) n cap)) (w.drew.alloc (.cells (olds.toArray ++ news.toArray ++ Builtin.zeroCells zc (cap - n)) e))) (h : grow W r n sz = .ok v W') : OpS P φ w0 W v W' x := by
  obtain ⟨_, h1⟩ := iteR_inv h
  have h1' : (W.new r fun b w => Rs.ok (.c (.q b 0 n false sz)) w) = .ok v W' := h1
  have hcs : (olds.toArray ++ news.toArray ++ Builtin.zeroCells zc (cap - n)).size = cap * sz := by
    rw [Array.size_append, Array.size_append, size_zeroCells, hz]
    simp only [List.size_toArray]
    rw [← List.length_append, hlen, ← Nat.add_mul]
    congr 1
    omega
  obtain ⟨b, W2, φ', m1, m2, m3, m4, m5⟩ := H.new (w' := w.drew.alloc (.cells (olds.toArray ++ news.toArray ++ Builtin.zeroCells zc (cap - n)) e)) (E := e) (fz := (0, 0)) (r := r) rfl rfl rfl (show w.heap.size ≤ (w.heap.push _).size by simp) (fun q hq => show (w.heap.push _)[q]? = _ by rw [Array.getElem?_push, if_neg (Nat.ne_of_lt hq)]) (heap_alloc_new w.drew _) (.inl rfl) hr.1 (by
    rw [hr.2.len, hcs, hlen]; exact Nat.mul_le_mul_right _ hcap) (fun i a ha => by
    obtain ⟨q, h2, h3⟩ := hr.2.get i a ha
    refine ⟨q, ?_, h3⟩
    have hi := (List.getElem?_eq_some_iff.1 h2).1
    rw [Array.getElem?_append_left (by rw [Array.size_append]; simpa using hi)]
    simpa using h2)
  rw [m1] at h1'
  cases h1'
  exact ⟨_, _, φ', .inl he, ⟨w.heap.size, 0, _, cap, 0, m2, rfl, hcap, hmax, fun h => (by cases h), fun _ => ⟨by rw [hcs]; omega, hsz⟩, .inr rfl⟩, m3, m4⟩
theorem wcut_inv {b : P4} {o n : Nat} {W1 : I.W} (h : W.cut b o n = some W1) : ∃ r y, T.get b W.m = some (.mk r true false) ∧ o + n ≤ r.size ∧ ((o = 0 ∧ y = .e) ∨ r.sub 0 o = some y) ∧ W.put b (.mk y false false) some = some W1 := by
  unfold I.W.cut at h
  obtain ⟨r, tok, ro, h1, h2⟩ := blk_inv (f := fun r t ro => ite' t (ite' ro none (ite' (Nat.ble (Nat.add o n) r.size) (ob (ite' (Nat.beq o 0) (some .e) (r.sub 0 o)) fun y => W.put b (.mk y false ro) some) none)) none) h
  obtain ⟨rfl, h3⟩ := ite_inv h2
  obtain ⟨rfl, h4⟩ := ite_inv2 h3
  obtain ⟨h5, h6⟩ := ite_inv h4
  obtain ⟨y, h7, h8⟩ := ob_inv h6
  refine ⟨r, y, h1, Nat.le_of_ble_eq_true h5, ?_, h8⟩
  cases hb : Nat.beq o 0 with
  | true => rw [hb] at h7; cases h7; exact .inl ⟨Nat.eq_of_beq_eq_true hb, rfl⟩
  | false => rw [hb] at h7; exact .inr h7
/-- The block that is cut: what the model may write behind the cut is nobody's. -/
theorem HR.cut2 (H : HR φ w0 W w) {b : P4} {gb p t o n : Nat} {W1 : I.W} (hb : φ b = some (gb, p, t)) (h : W.cut b o n = some W1) : HR φ w0 W1 w ∧ Kp φ φ W W1 ∧ w0.heap.size ≤ gb ∧ p + o + n ≤ t ∧ (∀ q, p + o ≤ q → q < t → w.frozen? ⟨gb, q, none⟩ = false) ∧
    ∀ b' o' t' r' tok', φ b' = some (gb, o', t') → T.get b' W1.m = some (.mk r' tok' false) → ∀ q, p + o ≤ q → q < t → o' ≤ q → q < ends o' t' r' tok' → False := by
  obtain ⟨r, y, h1, h2, h3, h4⟩ := wcut_inv h
  obtain ⟨c1, c2, _⟩ := H.cel b gb p t r true false hb h1
  obtain ⟨o1, o2⟩ := H.own b gb p t r true hb h1
  rw [R.size_eq c1] at h2
  have hy : y.ok ∧ y.l = r.l.take o := by
    rcases h3 with ⟨rfl, rfl⟩ | h3
    · exact ⟨trivial, by simp [R.l]⟩
    · obtain ⟨s1, s2, _⟩ := sub_spec c1 h3
      exact ⟨s1, by rw [s2, List.drop_zero]⟩
  obtain ⟨W2, k1, k2, k3, k4⟩ := H.cut (tok' := false) hb h1 hy.1 hy.2 (fun h => by cases h)
  rw [k1] at h4
  cases h4
  refine ⟨k2, k3, o1, by omega, fun q h5 h6 => o2 q (by omega) (by unfold ends; simpa using h6), fun b' o' t' r' tok' hb' hk' q h5 h6 h7 h8 => ?_⟩
  rw [k4] at hk'
  by_cases e : P4.eq b' b = true
  · rw [if_pos e] at hk'
    have e := (P4.eq_iff _ _).1 e
    subst e
    injection hk' with hk'
    injection hk' with e1 e2 e3
    subst e1; subst e2
    rw [hb] at hb'
    injection hb' with hb'
    injection hb' with _ hb'
    injection hb' with e4 e5
    subst e4
    unfold ends at h8
    rw [hy.2, List.length_take] at h8
    simp at h8
    omega
  · rw [if_neg e] at hk'
    exact H.dis b' b gb o' p t' t r' r tok' true (fun h => e ((P4.eq_iff _ _).2 h)) hb' hb hk' h1 q h7 h8 (by omega) (by unfold ends; simpa using h6)
/-- Appended in place, where the machine does not know of the room. -/
theorem HR.place (H : HR φ w0 W w) (P : Program) {b : P4} {gb p t o k : Nat} {W1 : I.W} {z y : R} {olds news : List Value} (hb : φ b = some (gb, p, t)) (h : W.cut b o k = some W1) (hz : RR φ z olds) (hzl : olds.length = k) (hzc : ∀ j v, olds[j]? = some v → w.cell? ((⟨gb, p + o, none⟩ : Addr).add j) = some v)
    (hy : RR φ y news) (hfit : p + o + k + news.length ≤ t) : ∃ w', (storeCells ⟨gb, p + o + k, none⟩ news).run P w = .ok () w' ∧ ∃ b' W2 φ', (∀ {β : Type} (f : P4 → I.W → β), W1.new (z.jn y) f = f b' W2) ∧ φ' b' = some (gb, p + o, t) ∧ HR φ' w0 W2 w' ∧ Kp φ φ' W W2 := by
  obtain ⟨c1, c2, c3, c4, c5, c6⟩ := H.cut2 hb h
  obtain ⟨c, E, fz, hg, hsz⟩ := H.tot b gb p t hb
  have hst := run_storeCells_p P gb (p + o + k) E fz news 0 c w hg (fun q h3 h4 => c5 q (by omega) (by omega)) (by omega) hy.all_one
  simp only [Nat.add_zero] at hst
  have hfit' : p + o + k + news.length ≤ c.size := by omega
  have hfr : ∀ (g' p' : Nat), (w.setRow gb (c.toList.take (p + o + k) ++ news ++ c.toList.drop (p + o + k + news.length)).toArray).frozen? ⟨g', p', none⟩ = w.frozen? ⟨g', p', none⟩ := fun g' p' => by
    by_cases eg : g' = gb
    · subst eg; exact frozen_row hg
    · simp only [World.frozen?]; rw [setRow_other w gb g' _ eg]
  have H2 : HR φ w0 W1 (w.setRow gb (c.toList.take (p + o + k) ++ news ++ c.toList.drop (p + o + k + news.length)).toArray) := by
    refine c1.world (step_row c1.st c3) (fun g' c' E' fz' hg' _ => ?_) (fun b' g' o' t' r' tok' ro' hb' hk' q h5 h6 => ?_) (fun b' g' o' t' r' tok' _ _ q hq => by rw [hfr]; exact hq)
    · by_cases eg : g' = gb
      · subst eg
        rw [hg] at hg'
        injection hg' with hg'
        injection hg' with e1 e2 e3
        subst e1
        refine ⟨_, E, fz, setRow_heap w g' c _ E fz hg, ?_⟩
        have := put_len (l := c.toList) (x := news) (o := p + o + k) (n := news.length) rfl (by simpa using hfit')
        simp only [List.size_toArray]
        rw [this]
        simp
      · exact ⟨c', E', fz', by rw [setRow_other w gb g' _ eg]; exact hg', rfl⟩
    · by_cases eg : g' = gb
      · subst eg
        rw [cell_row hg hfit', if_neg]
        intro hin
        cases ro' with
        | true => have := c1.ros b' g' o' t' r' tok' hb' hk'; omega
        | false =>
          have hle := (c1.cel b' g' o' t' r' tok' false hb' hk').2.1
          refine c6 b' o' t' r' tok' hb' hk' q (by omega) (by omega) h5 ?_
          unfold ends; split <;> omega
      · simp only [World.cell?]; rw [setRow_other w gb g' _ eg]
  obtain ⟨b', W2, φ', m1, m2, m3, m4, m5⟩ := H2.adopt (g := gb) (o := p + o) (t := t) (r := z.jn y) (setRow_heap w gb c _ E fz hg) (by
      have := put_len (l := c.toList) (x := news) (o := p + o + k) (n := news.length) rfl (by simpa using hfit')
      simp only [List.size_toArray]
      rw [this]
      simpa using hsz) (jn_ok hz.1 hy.1) (by rw [jn_l hz.1 hy.1, List.length_append, hz.2.len, hy.2.len]; omega) (by omega) (fun i a ha => by
      rw [jn_l hz.1 hy.1] at ha
      rw [cell_row hg hfit']
      by_cases hi : i < k
      · rw [if_neg (by omega)]
        rw [List.getElem?_append_left (by rw [hz.2.len]; omega)] at ha
        obtain ⟨u, h5, h6⟩ := hz.2.get i a ha
        have := hzc i u h5
        rw [V.add_lit] at this
        exact ⟨u, this, h6⟩
      · rw [List.getElem?_append_right (by rw [hz.2.len]; omega), hz.2.len, hzl] at ha
        obtain ⟨u, h5, h6⟩ := hy.2.get _ a ha
        have hil := (List.getElem?_eq_some_iff.1 h5).1
        rw [if_pos (by omega)]
        exact ⟨u, by rw [show p + o + i - (p + o + k) = i - k by omega]; exact h5, h6⟩) c3 (fun q h5 h6 => by rw [hfr]; exact c5 q h5 h6) c6
  exact ⟨_, hst, b', W2, φ', m1, m2, m3, c2.trans m4⟩
end
end I
end Go.Proofs.YtladkmnfmpojiaaGreatDoor
