/-
  The machine's operations and steps are the model's.
-/
import Derived.Test.YtladkmnfmpojiaaGreatDoorMc
import Derived.Calls
import Derived.Laws.Sem
namespace Go.Proofs.YtladkmnfmpojiaaGreatDoor
namespace I
section
variable {P : Program} {tt : T Ti} {φ : Ph} {w0 w : World} {W W' : I.W} {f : T V} {ρ : Operand → Value} {v : V} {ty : TypeId} {d : Option Tmp} {ps : String} {af : Array Edge} {g : Option (Nat × Bool)}
theorem storeCells_nil (a : Addr) (i : Nat) : (storeCells a [] i).run P w = .ok () w := rfl
theorem nQR {a : A} {g : Rs} {f : P4 → Nat → Nat → Bool → Nat → Rs} (h : a.nQ g f .no = .ok v W') : (a = .q0 ∧ g = .ok v W') ∨ ∃ b o n k c, a = .q b o n k c ∧ f b o n k c = .ok v W' := nQR_inv h
theorem app_ok {t e : TypeId} {ag : Bool} {sz : Nat} {z : R} {k : Kd} {c : List (Option IntKind)} (hu : P.underlying t = some (.slice e)) (ht : TiS P e ag sz z k c) (hsz : 1 ≤ sz) {a b : A} {s u : Value} (ha : AR φ a s) (hb : AR φ b u) (H : HR φ w0 W w) (h : appQ W sz (.c a) a b = .ok v W') :
    ∃ r : Result Value, (∀ ty, (Builtin.append_ #[t, t] ty #[s, u]).run P w = r) ∧ OpS P φ w0 W v W' (r.andThen fun v w => .ok (.value v) w) := by
  obtain ⟨i, zv, k1, k2, k3, k4, k5, k6⟩ := ht.info
  have hsmall := ht.small
  have hzc : zv.cells.size = sz := by rw [← Array.length_toList, ← k5.2.len, k6]
  -- nothing is added
  have none_ok : (∀ ty, (Builtin.append_ #[t, t] ty #[s, u]).run P w = .ok s w) → (a.nQ (Rs.ok (.c a) W) (fun _ _ _ _ _ => .ok (.c a) W) .no) = .ok v W' → ∃ r : Result Value, (∀ ty, (Builtin.append_ #[t, t] ty #[s, u]).run P w = r) ∧ OpS P φ w0 W v W' (r.andThen fun v w => .ok (.value v) w) := fun hr h => by
    have : v = .c a ∧ W' = W := by
      rcases nQR h with ⟨_, h⟩ | ⟨_, _, _, _, _, _, h⟩ <;> (cases h; exact ⟨rfl, rfl⟩)
    obtain ⟨rfl, rfl⟩ := this
    exact ⟨_, hr, .pure rfl ha H⟩
  have sliceA : (a.nQ (Rs.ok (.c a) W) (fun _ _ _ _ _ => .ok (.c a) W) .no) = .ok v W' → ∃ base m cp, s = .slice base m cp ∧ m ≤ cp := fun h => by
    rcases nQR h with ⟨rfl, _⟩ | ⟨b1, o1, n1, kn1, c1, rfl, _⟩
    · exact ⟨none, 0, 0, ha, Nat.le_refl _⟩
    · obtain ⟨gb, p, tg, cap, o', _, e1, e2, _⟩ := ha
      exact ⟨_, n1, cap, e1, e2⟩
  rcases nQR h with ⟨rfl, h1⟩ | ⟨b2, o2, n2, kn2, c2, rfl, h1⟩
  · refine none_ok (fun ty => ?_) h1
    obtain ⟨base, m, cp, rfl, hle⟩ := sliceA h1
    have hb' : u = .slice none 0 0 := hb
    subst hb'
    cases base <;> simp [Builtin.append_, run_underlying hu, sizeOf, typeInfo, k1, Builtin.lenOf, hle, Builtin.firstCells, storeCells_nil]
  · obtain ⟨gb2, p2, t2, cap2, o2', e1, e2, e3, _, _, _, e9⟩ := hb
    cases hn : Nat.beq n2 0 with
    | true =>
      rw [hn] at h1
      have hn0 := Nat.eq_of_beq_eq_true hn
      subst hn0
      refine none_ok (fun ty => ?_) h1
      obtain ⟨base, m, cp, rfl, hle⟩ := sliceA h1
      subst e2
      have hl : ∀ ad : Addr, (loadCells ad 0).run P w = .ok #[] w := fun ad => rfl
      cases base <;> simp [Builtin.append_, run_underlying hu, sizeOf, typeInfo, k1, Builtin.lenOf, hle, Builtin.firstCells, storeCells_nil, hl]
    | false =>
      rw [hn] at h1
      have hn0 : 0 < n2 := by
        rcases Nat.eq_zero_or_pos n2 with h | h
        · subst h; cases hn
        · exact h
      have e10 : o2 = o2' := by
        rcases e9 with e9 | e9
        · omega
        · exact e9
      subst e10
      obtain ⟨y, h2, h3⟩ := oR_inv h1
      obtain ⟨news, n1, n2', n3⟩ := H.part e1 h2
      have n1' : news.length = n2 * sz := n1
      subst e2
      have bnd : ∀ {n : Nat} {r : R} {W1 : I.W}, grow W1 r n sz = .ok v W' → n * sz ≤ 1000000 := fun h => lim_le (iteR_inv h).1
      have bnd2 : ∀ {n : Nat}, n * sz ≤ 1000000 → n ≤ 1000000 := fun {n} h => by
        have : n * 1 ≤ n * sz := Nat.mul_le_mul_left _ hsz
        omega
      have bytes : ∀ {n : Nat}, n ≤ 1000000 → n * i.bytes ≤ 140737488355328 := fun {n} h => by
        have : n * i.bytes ≤ 1000000 * 65536 := Nat.mul_le_mul h k3
        omega
      rcases nQR h3 with ⟨rfl, h4⟩ | ⟨b1, o1, m, kn, cp, rfl, h4⟩
      · have ha' : s = .slice none 0 0 := ha
        subst ha'
        have b1 := bnd2 (bnd h4)
        have b2 := bytes b1
        have hr : ∀ ty, _ = _ := fun ty => run_append_nil (P := P) (w := w) t ty e i zv hu k1 k4 ⟨gb2, p2 + o2, none⟩ n2 cap2 news (by rw [n1', k2]) n3 hn0 (by omega) (by omega)
        refine ⟨_, hr, grown_ok (olds := []) (news := news) (cap := grownCap w n2 0 e) (zc := zv.cells) (e := e) H (by simpa using n2') (by simpa using n1') hzc (grownCap_ge w n2 0 e) (grownCap_le_maxLen w n2 0 e (by simp only [maxLen]; omega)) hsz ?_ h4⟩
        simp
      · obtain ⟨gb, p, tg, cap, o', f1, f2, f3, f4, f5, f6, f9⟩ := ha
        subst f2
        have olds : ∀ {zr : R}, W.part b1 o1 (Nat.mul m sz) = some zr → ∃ olds : List Value, olds.length = m * sz ∧ RR φ zr olds ∧ ∀ j v, olds[j]? = some v → w.cell? ((⟨gb, p + o', none⟩ : Addr).add j) = some v := fun h => by
          obtain ⟨l, l1, l2, l3⟩ := H.part f1 h
          refine ⟨l, l1, l2, fun j v hj => ?_⟩
          rcases f9 with f9 | f9
          · have hm0 : m = 0 := by omega
            have hj2 := (List.getElem?_eq_some_iff.1 hj).1
            have l1' : l.length = m * sz := l1
            rw [hm0, Nat.zero_mul] at l1'
            omega
          · rw [← f9]; exact l3 j v hj
        have jn : ∀ {zr : R} {os : List Value}, RR φ zr os → RR φ (zr.jn y) (os ++ news) := fun h => ⟨jn_ok h.1 n2'.1, by rw [jn_l h.1 n2'.1]; exact h.2.append n2'.2⟩
        cases kn with
        | true =>
          have hcp := f5 rfl
          subst hcp
          cases hfit : Nat.ble (Nat.add m n2) cap with
          | true =>
            have h4' : (oR (W.stn (.c (.p b1 (Nat.add o1 (Nat.mul m sz)))) (Nat.mul n2 sz) y) fun w => fN (Nat.add m n2) fun n => Rs.ok (.c (.q b1 o1 n true cap)) w) = .ok v W' := by
              have h5 := h4
              simp only [ite_t] at h5
              rw [hfit] at h5
              exact h5
            have hle : m + n2 ≤ cap := Nat.le_of_ble_eq_true hfit
            have f10 : o1 = o' := by
              rcases f9 with f9 | f9
              · omega
              · exact f9
            subst f10
            obtain ⟨W1, h5, h6⟩ := oR_inv h4'
            cases h6
            obtain ⟨b', o', e7, h7⟩ := addr_inv (f := fun b o => W.blk b fun r t ro => ite' ro none (ite' (Nat.beq y.size (Nat.mul n2 sz)) (ob (r.put o (Nat.mul n2 sz) y) fun y => W.put b (.mk y t ro) some) none)) h5
            injection e7 with e7
            injection e7 with e8 e9
            subst e8; subst e9
            obtain ⟨r, tok, ro, h8, h9⟩ := blk_inv (f := fun r t ro => ite' ro none (ite' (Nat.beq y.size (Nat.mul n2 sz)) (ob (r.put (Nat.add o1 (Nat.mul m sz)) (Nat.mul n2 sz) y) fun y => W.put b1 (.mk y t ro) some) none)) h7
            obtain ⟨rfl, h10⟩ := ite_inv2 h9
            obtain ⟨_, h11⟩ := ite_inv h10
            obtain ⟨r', h12, h13⟩ := ob_inv h11
            obtain ⟨w', g1, W2, g2, g3, g4⟩ := H.stn P f1 h8 n2' (by rw [n2'.2.len, n1']; rfl) h12
            rw [g2] at h13
            cases h13
            have hf := run_firstCells_some (P := P) w sz n2 ⟨gb2, p2 + o2, none⟩ n2 cap2 news n1' n3
            refine ⟨.ok (.slice (some ⟨gb, p + o1, none⟩) (m + n2) cap) w', fun ty => ?_, _, w', φ, .inl rfl, ⟨gb, p, tg, cap, o1, f1, rfl, hle, f4, fun _ => rfl, (fun h => by cases h), .inr rfl⟩, g3, g4⟩
            have e0 : (⟨gb, p + o1, none⟩ : Addr).add (m * sz) = ⟨gb, p + (o1 + m * sz), none⟩ := by rw [V.add_lit, Nat.add_assoc]
            have g1' : (storeCells ⟨gb, p + (o1 + m * sz), none⟩ news).run P w = .ok () w' := g1
            simp [Builtin.append_, run_underlying hu, sizeOf, typeInfo, k1, k2, Builtin.lenOf, hle, hf, e0, g1']
          | false =>
            have h4' : (oR (W.part b1 o1 (Nat.mul m sz)) fun z => z.join y fun z => grow W z (Nat.add m n2) sz) = .ok v W' := by
              have h5 := h4
              simp only [ite_t] at h5
              rw [hfit] at h5
              exact h5
            have hgt : cap < m + n2 := Nat.lt_of_not_le fun h => by rw [show Nat.ble (Nat.add m n2) cap = true from Nat.ble_eq_true_of_le h] at hfit; cases hfit
            obtain ⟨zr, h5, h6⟩ := oR_inv h4'
            rw [join_eq] at h6
            obtain ⟨os, l1, l2, l3⟩ := olds h5
            have b1 := bnd2 (bnd h6)
            have b1' : m + n2 ≤ 1000000 := b1
            have b2 := bytes b1'
            have hr : ∀ ty, _ = _ := fun ty => run_append_grow (P := P) (w := w) t ty e i zv hu k1 k4 ⟨gb, p + o', none⟩ m cap os (by rw [l1, k2]) l3 ⟨gb2, p2 + o2, none⟩ n2 cap2 news (by rw [n1', k2]) n3 hgt (by omega) (growslice_fits hgt b2)
            exact ⟨_, hr, grown_ok (olds := os) (news := news) (n := m + n2) (cap := grownCap w (m + n2) cap e) (zc := zv.cells) (e := e) H (jn l2) (by rw [List.length_append, l1, n1', ← Nat.add_mul]) hzc (grownCap_ge w (m + n2) cap e) (grownCap_le_maxLen w (m + n2) cap e (by simp only [maxLen]; omega)) hsz rfl h6⟩
        | false =>
          obtain ⟨f7, f8⟩ := f6 rfl
          have h4' : ite' (Nat.beq cp sz) (oR (W.part b1 o1 (Nat.mul m sz)) fun z => oR (W.cut b1 o1 (Nat.mul m sz)) fun w => z.join y fun z => grow w z (Nat.add m n2) sz) .no = .ok v W' := h4
          obtain ⟨q0, h5⟩ := iteR_inv h4'
          have q0 := Nat.eq_of_beq_eq_true q0
          subst q0
          obtain ⟨zr, h6, h7⟩ := oR_inv h5
          obtain ⟨W1, h8, h9⟩ := oR_inv h7
          rw [join_eq] at h9
          obtain ⟨os, l1, l2, l3⟩ := olds h6
          have b1 := bnd2 (bnd h9)
          have b1' : m + n2 ≤ 1000000 := b1
          have b2 := bytes b1'
          by_cases hfit : m + n2 ≤ cap
          · have f10 : o1 = o' := by
              rcases f9 with f9 | f9
              · omega
              · exact f9
            subst f10
            have hroom : p + o1 + m * cp + news.length ≤ tg := by
              have : (m + n2) * cp ≤ cap * cp := Nat.mul_le_mul_right _ hfit
              rw [n1', Nat.add_assoc (p + o1), ← Nat.add_mul]
              omega
            obtain ⟨w', g1, b', W2, φ', g2, g3, g4, g5⟩ := H.place P f1 h8 l2 l1 l3 n2' hroom
            obtain ⟨_, h10⟩ := iteR_inv h9
            have h10' : (W1.new (zr.jn y) fun b w => Rs.ok (.c (.q b 0 (Nat.add m n2) false cp)) w) = .ok v W' := h10
            rw [g2] at h10'
            cases h10'
            have hf := run_firstCells_some (P := P) w cp n2 ⟨gb2, p2 + o2, none⟩ n2 cap2 news n1' n3
            refine ⟨.ok (.slice (some ⟨gb, p + o1, none⟩) (m + n2) cap) w', fun ty => ?_, _, w', φ', .inl rfl, ⟨gb, p + o1, tg, cap, 0, g3, rfl, hfit, f4, fun h => (by cases h), fun _ => ⟨by omega, f8⟩, .inr rfl⟩, g4, g5⟩
            have e0 : (⟨gb, p + o1, none⟩ : Addr).add (m * cp) = ⟨gb, p + o1 + m * cp, none⟩ := by rw [V.add_lit]
            have g1' : (storeCells ⟨gb, p + o1 + m * cp, none⟩ news).run P w = .ok () w' := g1
            simp [Builtin.append_, run_underlying hu, sizeOf, typeInfo, k1, k2, Builtin.lenOf, hfit, hf, e0, g1']
          · have hgt : cap < m + n2 := by omega
            obtain ⟨c1, c2, _⟩ := H.cut2 f1 h8
            have hr : ∀ ty, _ = _ := fun ty => run_append_grow (P := P) (w := w) t ty e i zv hu k1 k4 ⟨gb, p + o', none⟩ m cap os (by rw [l1, k2]) l3 ⟨gb2, p2 + o2, none⟩ n2 cap2 news (by rw [n1', k2]) n3 hgt (by omega) (growslice_fits hgt b2)
            obtain ⟨u', w', φ', r1, r2, r3, r4⟩ := grown_ok (P := P) (olds := os) (news := news) (n := m + n2) (cap := grownCap w (m + n2) cap e) (zc := zv.cells) (e := e) c1 (jn l2) (by rw [List.length_append, l1, n1', ← Nat.add_mul]) hzc (grownCap_ge w (m + n2) cap e) (grownCap_le_maxLen w (m + n2) cap e (by simp only [maxLen]; omega)) hsz rfl h9
            exact ⟨_, hr, u', w', φ', r1, r2, r3, c2.trans r4⟩
end
end I
end Go.Proofs.YtladkmnfmpojiaaGreatDoor
namespace Go.Proofs.YtladkmnfmpojiaaGreatDoor
namespace I
section
variable {P : Program} {tt : T Ti} {φ : Ph} {w0 w : World} {W W' : I.W} {f : T V} {ρ : Operand → Value} {v : V} {ty : TypeId} {d : Option Tmp} {ps : String} {af : Array Edge} {g : Option (Nat × Bool)}
theorem i64_ok {n : Nat} (h : n ≤ maxLen) : VR φ (i64 n) (.int .i64 (n : Int)) := by
  refine ⟨?_, ?_⟩
  · show n < 18446744073709551616; simp only [maxLen] at h; omega
  · rw [nng_iff]
    show Nat.ble (n.succ) 9223372036854775808 = true
    exact Nat.ble_eq_true_of_le (by simp only [maxLen] at h; omega)
theorem cop_ok {t e t2 : TypeId} {ag : Bool} {sz : Nat} {z : R} {k : Kd} {c : List (Option IntKind)} (hu : P.underlying t = some (.slice e)) (ht : TiS P e ag sz z k c) {a b : A} {s u : Value} (ha : AR φ a s) (hb : AR φ b u) (H : HR φ w0 W w) (h : copQ W sz a b = .ok v W') :
    ∃ r : Result Value, (∀ ty, (Builtin.copy_ #[t, t2] ty #[s, u]).run P w = r) ∧ OpS P φ w0 W v W' (r.andThen fun v w => .ok (.value v) w) := by
  have hs := ht.size
  have none_ok : ∀ {p q : Option Addr} {m n cp cq : Nat}, s = .slice p m cp → u = .slice q n cq → Nat.min n m = 0 → v = i64 0 ∧ W' = W → ∃ r : Result Value, (∀ ty, (Builtin.copy_ #[t, t2] ty #[s, u]).run P w = r) ∧ OpS P φ w0 W v W' (r.andThen fun v w => .ok (.value v) w) := fun {p q m n cp cq} e1 e2 e3 e4 => by
    obtain ⟨rfl, rfl⟩ := e4
    subst e1; subst e2
    have hl : ∀ ad : Addr, (loadCells ad 0).run P w = .ok #[] w := fun ad => rfl
    refine ⟨.ok (.int .i64 ((0 : Nat) : Int)) w, fun ty => ?_, .pure rfl (i64_ok (Nat.zero_le _)) H⟩
    have e3' : min n m = 0 := e3
    cases p <;> cases q <;> simp [Builtin.copy_, run_underlying hu, Builtin.lenOf, hs, e3', Builtin.firstCells, storeCells_nil, hl, goInt]
  have sl : ∀ {a : A} {s : Value}, AR φ a s → ∀ {g : Rs} {f : P4 → Nat → Nat → Bool → Nat → Rs}, a.nQ g f .no = .ok v W' → ∃ p m cp, s = .slice p m cp ∧ (a = .q0 → m = 0) := fun {a s} ha {g f} h => by
    rcases nQR h with ⟨rfl, _⟩ | ⟨b1, o1, n1, kn1, c1, rfl, _⟩
    · exact ⟨none, 0, 0, ha, fun _ => rfl⟩
    · obtain ⟨gb, p, tg, cap, o', _, e1, _⟩ := ha
      exact ⟨_, n1, cap, e1, fun h => by cases h⟩
  rcases nQR h with ⟨rfl, h1⟩ | ⟨b2, o2, n2, kn2, c2, rfl, h1⟩
  · obtain ⟨p, m, cp, e1, _⟩ := sl ha h1
    have hv : v = i64 0 ∧ W' = W := by
      rcases nQR h1 with ⟨_, h⟩ | ⟨_, _, _, _, _, _, h⟩ <;> (cases h; exact ⟨rfl, rfl⟩)
    exact none_ok e1 (show u = .slice none 0 0 from hb) (Nat.zero_min _) hv
  · obtain ⟨gb2, p2, t2', cap2, o2', e1, e2, e3, _, _, _, e9⟩ := hb
    rcases nQR h1 with ⟨rfl, h2⟩ | ⟨b1, o1, n1, kn1, c1, rfl, h2⟩
    · cases h2
      exact none_ok (show s = .slice none 0 0 from ha) e2 (Nat.min_zero _) ⟨rfl, rfl⟩
    · obtain ⟨gb, p, tg, cap, o1', f1, f2, f3, f4, _, _, f9⟩ := ha
      have hk : ite' (Nat.ble n2 n1) n2 n1 = min n2 n1 := by
        cases hb : Nat.ble n2 n1 with
        | true => exact (Nat.min_eq_left (Nat.le_of_ble_eq_true hb)).symm
        | false =>
          have : ¬ n2 ≤ n1 := fun h => by rw [Nat.ble_eq_true_of_le h] at hb; cases hb
          exact (show n1 = min n2 n1 by omega)
      have h2' : ite' (Nat.beq (ite' (Nat.ble n2 n1) n2 n1) 0) (Rs.ok (i64 0) W) (oR (W.part b2 o2 (Nat.mul (ite' (Nat.ble n2 n1) n2 n1) sz)) fun z => oR (W.stn (.c (.p b1 o1)) (Nat.mul (ite' (Nat.ble n2 n1) n2 n1) sz) z) fun w => .ok (i64 (ite' (Nat.ble n2 n1) n2 n1)) w) = .ok v W' := h2
      rw [hk] at h2'
      cases hn : Nat.beq (min n2 n1) 0 with
      | true =>
        rw [hn] at h2'
        cases h2'
        exact none_ok f2 e2 (Nat.eq_of_beq_eq_true hn) ⟨rfl, rfl⟩
      | false =>
        rw [hn] at h2'
        have hmin : min n2 n1 ≠ 0 := fun h => by rw [h] at hn; cases hn
        have e10 : o2 = o2' := by
          rcases e9 with e9 | e9
          · omega
          · exact e9
        subst e10
        have f10 : o1 = o1' := by
          rcases f9 with f9 | f9
          · omega
          · exact f9
        subst f10
        obtain ⟨y, h3, h4⟩ := oR_inv h2'
        obtain ⟨news, m1, m2, m3⟩ := H.part e1 h3
        obtain ⟨W1, h5, h6⟩ := oR_inv h4
        cases h6
        obtain ⟨b', o', e7, h7⟩ := addr_inv (f := fun b o => W.blk b fun r t ro => ite' ro none (ite' (Nat.beq y.size (Nat.mul (min n2 n1) sz)) (ob (r.put o (Nat.mul (min n2 n1) sz) y) fun y => W.put b (.mk y t ro) some) none)) h5
        injection e7 with e7
        injection e7 with e8 e9
        subst e8; subst e9
        obtain ⟨r, tok, ro, h8, h9⟩ := blk_inv (f := fun r t ro => ite' ro none (ite' (Nat.beq y.size (Nat.mul (min n2 n1) sz)) (ob (r.put o1 (Nat.mul (min n2 n1) sz) y) fun y => W.put b1 (.mk y t ro) some) none)) h7
        obtain ⟨rfl, h10⟩ := ite_inv2 h9
        obtain ⟨_, h11⟩ := ite_inv h10
        obtain ⟨r', h12, h13⟩ := ob_inv h11
        obtain ⟨w', g1, W2, g2, g3, g4⟩ := H.stn P f1 h8 m2 (by rw [m2.2.len, m1]) h12
        rw [g2] at h13
        cases h13
        subst f2; subst e2
        have m1' : news.length = min n2 n1 * sz := m1
        have hf := run_firstCells_some (P := P) w sz (min n2 n1) ⟨gb2, p2 + o2, none⟩ n2 cap2 news m1' m3
        refine ⟨.ok (.int .i64 ((min n2 n1 : Nat) : Int)) w', fun ty => ?_, _, w', φ, .inl rfl, i64_ok (by have := Nat.min_le_right n2 n1; have := f3; show min n2 n1 ≤ maxLen; omega), g3, g4⟩
        have hf' : (Builtin.firstCells sz (n2.min n1) (.slice (some ⟨gb2, p2 + o2, none⟩) n2 cap2)).run P w = .ok news.toArray w := hf
        simp [Builtin.copy_, run_underlying hu, Builtin.lenOf, hs, hf', g1, goInt]
/-- What the machine's operations may read. -/
def Rd (φ : Ph) (f : T V) (ρ : Operand → Value) (o : Op) : Prop := ∀ x ∈ o.operands.toList, EvR φ f ρ x
/-- The forms that the machine takes. -/
def fits : Op → Bool
  | .buildSlice _ n _ => Nat.ble n 1000
  | .slice _ _ _ hi mx => hi.isSome || mx.isNone
  | _ => true
theorem op_ok (htt : TtS P tt) {o : Op} (hd : (∃ t x y, o = .store t x y) → d = none) (hf : fits o = true) (h : opr o tt ty f W = .ok v W') (hx : Rd φ f ρ o) (H : HR φ w0 W w) : OpS P φ w0 W v W' ((execOp ρ ⟨d, o, ty, ps, af, g⟩).run P w) := by
  cases o with
  | move x => exact s_move (tt := tt) h (hx x (by simp [Op.operands])) H
  | assign x => exact s_assign (tt := tt) h (hx x (by simp [Op.operands])) H
  | pick c a b => exact s_pick (tt := tt) h (hx c (by simp [Op.operands])) (hx a (by simp [Op.operands])) (hx b (by simp [Op.operands])) H
  | alloc e => exact s_alloc (f := f) htt h H
  | box e x => exact s_box (tt := tt) h (hx x (by simp [Op.operands])) H
  | build t qs => exact s_build htt h (fun p hp => hx p.2 (by simp only [Op.operands]; exact List.mem_map.2 ⟨p, hp, rfl⟩)) H
  | buildSlice t n qs => exact s_bslice htt (Nat.le_of_ble_eq_true hf) h (fun p hp => hx p.2 (by simp only [Op.operands]; exact List.mem_map.2 ⟨p, hp, rfl⟩)) H
  | load t x => exact s_load htt h (hx x (by simp [Op.operands])) H
  | store t x y =>
    have := hd ⟨_, _, _, rfl⟩
    subst this
    exact s_store htt h (hx x (by simp [Op.operands])) (hx y (by simp [Op.operands])) H
  | nilCheck x => exact s_nil (tt := tt) h (hx x (by simp [Op.operands])) H
  | binOp op t x y t2 => exact s_bin htt h (hx x (by simp [Op.operands])) (hx y (by simp [Op.operands])) H
  | unOp op t x => exact s_un (tt := tt) h (hx x (by simp [Op.operands])) H
  | convert s t x => exact s_conv htt h (hx x (by simp [Op.operands])) H
  | makeFunc fn x y => exact s_mkf (tt := tt) h (fun o ho => hx o (by simp only [Op.operands, Array.toList_append]; exact List.mem_append_left _ ho)) (fun o ho => hx o (by simp only [Op.operands, Array.toList_append]; exact List.mem_append_right _ ho)) H
  | makeSlice t x y => exact s_mks htt h (hx x (by simp [Op.operands])) (hx y (by simp [Op.operands])) H
  | slice t x lo hi mx =>
    refine s_slice htt h (hx x (by simp [Op.operands])) (fun o ho => hx o (by subst ho; simp [Op.operands])) (fun o ho => hx o (by subst ho; simp [Op.operands])) (fun o ho => hx o (by subst ho; simp [Op.operands])) (fun hn => ?_) H
    subst hn
    cases mx with
    | none => rfl
    | some _ => cases hf
  | fieldAddr t x i => exact s_fa htt h (hx x (by simp [Op.operands])) H
  | field t x i => exact s_fld htt h (hx x (by simp [Op.operands])) H
  | indexAddr t x y => exact s_ia htt h (hx x (by simp [Op.operands])) (hx y (by simp [Op.operands])) H
  | index t x y => exact s_ix htt h (hx x (by simp [Op.operands])) (hx y (by simp [Op.operands])) H
  | extract x i => exact s_ext (tt := tt) h (hx x (by simp [Op.operands])) H
  | call c =>
    obtain ⟨cal, ⟨args⟩, ats⟩ := c
    have h' : (oR (evL f args) fun l => Callee.rec (motive := fun _ => Rs) (fun _ => Rs.no) (fun _ _ => .no) (fun b => bFn b tt ats.toList l W) cal) = .ok v W' := h
    obtain ⟨l, h1, h2⟩ := oR_inv h'
    cases cal with
    | value x => cases h2
    | invoke x m => cases h2
    | builtin b =>
      have hxs : ∀ o ∈ args, EvR φ f ρ o := fun o ho => hx o (by simp [Op.operands, Call.operands, ho])
      cases b with
      | append =>
        obtain ⟨t, t2, e1, h3⟩ := twoR_inv (f := fun t t2 => ite' (Nat.beq t t2) (oR (elm tt t fun e => ti tt e fun _ sz _ _ => some sz) fun sz => ite' (Nat.ble 1 sz) (two l (fun s x => s.nC (fun a => x.nC (fun b => appQ W sz s a b) .no) .no) .no) .no) .no) h2
        obtain ⟨h4, h5⟩ := iteR_inv h3
        have h4 := Nat.eq_of_beq_eq_true h4
        subst h4
        obtain ⟨sz, h6, h7⟩ := oR_inv h5
        obtain ⟨ag, s1, z, e, c, h8, h9⟩ := elm_inv h6
        obtain ⟨ag2, s2, z2, k2, c2, h10, h11⟩ := ti_inv h9
        cases h11
        obtain ⟨h12, h13⟩ := iteR_inv h7
        obtain ⟨s, x, rfl, h14⟩ := twoR_inv h13
        obtain ⟨a, rfl, h15⟩ := nCR_inv h14
        obtain ⟨b, rfl, h16⟩ := nCR_inv h15
        obtain ⟨u1, u2, e2, e3, e4⟩ := all2_two (evL_ok args _ hxs h1)
        obtain ⟨r, r1, r2⟩ := app_ok (htt _ _ _ _ _ _ h8).kd (htt _ _ _ _ _ _ h10) (Nat.le_of_ble_eq_true h12) (c_ok e3) (c_ok e4) H h16
        have e5 : ats = #[t, t] := by apply Array.ext'; rw [e1]
        subst e5
        rw [bi_ok (r := r) e2 fun ty cs => by simp [builtin, r1]]
        exact r2
      | copy =>
        obtain ⟨t, t2, e1, h3⟩ := twoR_inv (f := fun t _ => oR (elm tt t fun e => ti tt e fun _ sz _ _ => some sz) fun sz => ite' (Nat.ble 1 sz) (two l (fun d x => d.nC (fun a => x.nC (fun b => copQ W sz a b) .no) .no) .no) .no) h2
        obtain ⟨sz, h6, h7⟩ := oR_inv h3
        obtain ⟨ag, s1, z, e, c, h8, h9⟩ := elm_inv h6
        obtain ⟨ag2, s2, z2, k2, c2, h10, h11⟩ := ti_inv h9
        cases h11
        obtain ⟨h12, h13⟩ := iteR_inv h7
        obtain ⟨s, x, rfl, h14⟩ := twoR_inv h13
        obtain ⟨a, rfl, h15⟩ := nCR_inv h14
        obtain ⟨b, rfl, h16⟩ := nCR_inv h15
        obtain ⟨u1, u2, e2, e3, e4⟩ := all2_two (evL_ok args _ hxs h1)
        obtain ⟨r, r1, r2⟩ := cop_ok (t2 := t2) (htt _ _ _ _ _ _ h8).kd (htt _ _ _ _ _ _ h10) (c_ok e3) (c_ok e4) H h16
        have e5 : ats = #[t, t2] := by apply Array.ext'; rw [e1]
        subst e5
        rw [bi_ok (r := r) e2 fun ty cs => by simp [builtin, r1]]
        exact r2
      | len => exact len_ok htt hxs h1 h2 H
      | max => exact mx_ok (mx := true) hxs h1 h2 H
      | min => exact mx_ok (mx := false) hxs h1 h2 H
      | _ => cases h2
  | _ => cases h
theorem ptrs_ok : ∀ (x : List (P4 × Nat)) (xs : List Value) (l : List V) (us : List Value), All2 (PR φ) x xs → All2 (VR φ) l us → All2 (VR φ) (ptrs x l) (xs ++ us)
  | _, _, _, _, .nil, h => h
  | (_, _) :: _, _, _, _, .cons h t, h2 => .cons h (ptrs_ok _ _ _ _ t h2)
theorem all2_app {α β : Type} {R : α → β → Prop} : ∀ {x : List α} {xs : List β} {l : List α} {us : List β}, All2 R x xs → All2 R l us → All2 R (x ++ l) (xs ++ us)
  | _, _, _, _, .nil, h => h
  | _, _, _, _, .cons h t, h2 => .cons h (all2_app t h2)
/-- A call of a function of the program. -/
theorem call_ok {o : Op} {i : Nat} {l : List V} (h : cl1 o f = some (i, l)) (hx : Rd φ f ρ o) : ∃ us : List Value, All2 (VR φ) l us ∧ (execOp ρ ⟨d, o, ty, ps, af, g⟩).run P w = (callFunc i us.toArray).run P w := by
  cases o with
  | call c =>
    obtain ⟨cal, ⟨as⟩, ats⟩ := c
    obtain ⟨l1, h1, h2⟩ := ob_inv h
    cases cal with
    | value x =>
      obtain ⟨p, h3, h4⟩ := ob_inv h2
      obtain ⟨a, rfl, h5⟩ := nC_inv h4
      cases a with
      | f j x1 y1 =>
        injection h5 with h5
        injection h5 with h6 h7
        subst h6; subst h7
        obtain ⟨xs, ys, e1, e2, e3⟩ := hx x (by simp [Op.operands, Call.operands]) _ h3
        have hl := evL_ok as l1 (fun o ho => hx o (by simp [Op.operands, Call.operands, ho])) h1
        refine ⟨xs.toList ++ (as.map ρ ++ (ys.toList ++ [])), ptrs_ok _ _ _ _ e2 (all2_app hl (ptrs_ok _ _ _ _ e3 .nil)), ?_⟩
        have e4 : (xs.toList ++ (as.map ρ ++ (ys.toList ++ []))).toArray = xs ++ (as.map ρ).toArray ++ ys := by
          apply Array.ext'; simp
        rw [e4]
        simp [execOp, resolve, Deferred.ofValue, e1, invoke]
      | _ => cases h5
    | _ => cases h2
  | _ => cases h
end
end I
end Go.Proofs.YtladkmnfmpojiaaGreatDoor
namespace Go.Proofs.YtladkmnfmpojiaaGreatDoor
namespace I
section
variable {P : Program} {tt : T Ti} {φ : Ph} {w0 w : World} {W W' : I.W} {f : T V} {ρ : Operand → Value} {v : V} {ty : TypeId} {d : Option Tmp} {ps : String} {af : Array Edge} {g : Option (Nat × Bool)}
/-- A new block of the model, as a row. -/
def NewS (_ : Program) (φ : Ph) (mk : P4 → V) (r : R) (w : World) (x : Result Next) : Prop :=
  ∃ (c : Array Value) (E : TypeId) (u : Value), RR φ r c.toList ∧ x = .ok (.value u) (w.alloc (.cells c E)) ∧ ∀ (φ' : Ph) b, φ' b = some (w.heap.size, 0, c.size) → φ.le φ' → VR φ' (mk b) u
theorem HR.ext {m m' : T Blk} {x : P4} (h : HR φ w0 (.mk m x) w) (he : ∀ b, T.get b m = T.get b m') : HR φ w0 (.mk m' x) w := by
  obtain ⟨h1, h2, h3, h4, h5, h6, h7, h8⟩ := h
  refine ⟨h1, ?_, h3, h4, ?_, ?_, ?_, ?_⟩
  · obtain ⟨_, n, e, a, b⟩ := h2
    injection e with e1 e2
    subst e1; subst e2
    exact ⟨_, n, rfl, a, fun q hq => b q (by rw [he]; exact hq)⟩
  · intro b g o t r tok ro hb hk
    exact h5 b g o t r tok ro hb ((he b).trans hk)
  · intro b g o t r tok hb hk
    exact h6 b g o t r tok hb ((he b).trans hk)
  · intro b b' g o o' t t' r r' tok tok' hne hb hb' hk hk'
    exact h7 b b' g o o' t t' r r' tok tok' hne hb hb' ((he b).trans hk) ((he b').trans hk')
  · intro b g o t r tok hb hk
    exact h8 b g o t r tok hb ((he b).trans hk)
theorem up_le {b : P4} {x : Nat × Nat × Nat} (hb : φ b = none) : φ.le (φ.up b x) := fun q y e => by
  have : q ≠ b := fun e2 => by rw [e2, hb] at e; cases e
  rw [up_ne φ _ this, e]
/-- The model makes a block that the machine has made. -/
theorem act_ok {mk : P4 → V} {r : R} {b : P4} {x : Result Next} (H : HR φ w0 W w) (hb : φ b = none) (hk : T.get b W.m = some (.mk r true false)) (hx : NewS P φ mk r w x) :
    ∃ u w' y, x = .ok (.value u) w' ∧ VR (φ.up b y) (mk b) u ∧ HR (φ.up b y) w0 W w' := by
  obtain ⟨c, E, u, h1, h2, h3⟩ := hx
  obtain ⟨m, n, rfl, h4, h5⟩ := H.x
  have hlt : b.num < n := h5 b (by rw [show T.get b m = _ from hk]; simp)
  have hm := H.more (w' := w.alloc (.cells c E)) rfl rfl rfl (show w.heap.size ≤ (w.heap.push _).size by simp) (fun q hq => show (w.heap.push _)[q]? = _ by rw [Array.getElem?_push, if_neg (Nat.ne_of_lt hq)])
  have hg := heap_alloc_new w (.cells c E)
  have hz : r.l.length = c.size := by rw [h1.2.len]; simp
  have hu := hm.adopt_at (k := n) (o := 0) (r := r) hb (Nat.le_refl _) hlt hg rfl h1.1 (by omega) (Nat.zero_le _) (fun i a ha => by
    obtain ⟨q, h6, h7⟩ := h1.2.get i a ha
    exact ⟨q, by rw [cell_fz hg, Nat.zero_add]; simpa using h6, h7⟩) H.st.size (fun p _ _ => by simp only [World.frozen?, hg]; simp) (fun q o' t' r' tok' hq _ => by have := H.lt hq; omega)
  refine ⟨u, _, (w.heap.size, 0, c.size), h2, h3 _ b (up_self _ _ _) (up_le hb), hu.ext fun q => ?_⟩
  by_cases e : q = b
  · subst e; rw [get_put_self]; exact hk.symm
  · rw [get_put_ne _ _ _ _ e]
theorem n_alloc {e : TypeId} (htt : TtS P tt) (h : oAlloc e tt ty f W = .ok v W') : ∃ r mk, (∀ W2, oAlloc e tt ty f W2 = W2.new r fun b w => .ok (mk b) w) ∧
    ∀ (φ : Ph) (ρ : Operand → Value) (w : World), NewS P φ mk r w ((execOp ρ ⟨d, .alloc e, ty, ps, af, g⟩).run P w) := by
  obtain ⟨z, h1, h2⟩ := oR_inv h
  obtain ⟨ag, sz, z', k, c, h3, h4⟩ := ti_inv h1
  cases h4
  refine ⟨z, fun b => .c (.p b 0), fun W2 => by simp only [oAlloc, h1, oR_some]; rfl, fun φ ρ w => ?_⟩
  obtain ⟨zv, k1, k2, _⟩ := zero_ok (φ := φ) (htt _ _ _ _ _ _ h3)
  refine ⟨zv.cells, e, .pointer (some ⟨w.heap.size, 0, none⟩), k2, ?_, fun φ' b hb _ => ptr_ok hb⟩
  simp only [execOp, Instr.alloc, k1, newVar, newRow, Sem.run_bind, run_newObj, Result.andThen_ok, Sem.run_pure]; rfl
theorem n_bslice {t : TypeId} {n : Nat} {qs : Array (Nat × Operand)} (htt : TtS P tt) (hn : n ≤ 1000) (h : oBSlice t n qs tt ty f W = .ok v W') : ∃ r mk, (∀ W2, oBSlice t n qs tt ty f W2 = W2.new r fun b w => .ok (mk b) w) ∧
    ∀ (φ : Ph) (ρ : Operand → Value) (w : World), (∀ p ∈ qs.toList, EvR φ f ρ p.2) → NewS P φ mk r w ((execOp ρ ⟨d, .buildSlice t n qs, ty, ps, af, g⟩).run P w) := by
  obtain ⟨qs⟩ := qs
  obtain ⟨r, h1, h2⟩ := oR_inv h
  refine ⟨r, fun b => .c (.q b 0 n true n), fun W2 => by simp only [oBSlice, h1, oR_some], fun φ ρ w hx => ?_⟩
  obtain ⟨ag, sz, z, e, c, h3, h4⟩ := elm_inv h1
  obtain ⟨ag2, sz2, z2, k2, c2, h5, h6⟩ := ti_inv h4
  have ht := htt _ _ _ _ _ _ h3
  have ht2 := htt _ _ _ _ _ _ h5
  have hu : P.underlying t = some (.slice e) := ht.kd
  obtain ⟨zv, k3, k4, k5⟩ := zero_ok (φ := φ) ht2
  obtain ⟨zr, q1, q2, q3⟩ := rep_spec (m := sz2) k4.1 64 n (fun z => lay f (fun i h => ite' (Nat.ble (Nat.succ i) n) (h (Nat.mul i sz2) sz2) none) qs z) (by omega)
  rw [q1] at h6
  have hrr := rep_rr k4 k5 q2 q3
  obtain ⟨cs', m1, m2, m3⟩ := lay_ok (φ := φ) (ρ := ρ) (f := f) (pl := fun i => some (i * sz2, sz2)) (fun i k r hg => by
      obtain ⟨_, h6⟩ := ite_inv hg
      exact ⟨_, _, rfl, h6⟩) qs zr r _ hx hrr h6
  refine ⟨cs', e, .slice (some ⟨w.heap.size, 0, none⟩) n n, m2, ?_, fun φ' b hb _ => q_ok hb (by simp only [maxLen]; omega) (Nat.le_refl _)⟩
  have hle : n * sz2 ≤ 1000 * 10000 := Nat.mul_le_mul hn ht2.small
  generalize hvs : (qs.map fun p => (p.1, ρ p.2)) = vs at m1
  have hlim : ¬ (16777216 < n * sz2) := by omega
  by_cases h0 : n * sz2 = 0
  · have e0 : Array.range 0 = #[] := rfl
    simp only [h0, e0, Array.map_empty] at m1
    simp [execOp, Instr.buildSlice, run_underlying hu, ht2.size, h0, hvs, newRow, e0, m1]
  · simp [execOp, Instr.buildSlice, run_underlying hu, ht2.size, h0, hlim, k3, hvs, newRow]
    rw [m1]
    simp
theorem n_mks {t : TypeId} {x y : Operand} (htt : TtS P tt) (h : oMkS t x y tt ty f W = .ok v W') : ∃ r mk, (∀ W2, oMkS t x y tt ty f W2 = W2.new r fun b w => .ok (mk b) w) ∧
    ∀ (φ : Ph) (ρ : Operand → Value) (w : World), EvR φ f ρ x → EvR φ f ρ y → NewS P φ mk r w ((execOp ρ ⟨d, .makeSlice t x y, ty, ps, af, g⟩).run P w) := by
  obtain ⟨n, h1, h2⟩ := oR_inv h
  obtain ⟨c, h3, h4⟩ := oR_inv h2
  obtain ⟨h5, h6⟩ := iteR_inv h4
  obtain ⟨h7, h8⟩ := iteR_inv h6
  obtain ⟨r, h9, h10⟩ := oR_inv h8
  refine ⟨r, fun b => .c (.q b 0 n true c), fun W2 => by simp only [oMkS, h1, h3, h5, h7, h9, oR_some, ite_t], fun φ ρ w hx hy => ?_⟩
  obtain ⟨ag, sz, z, e, cs, h11, h12⟩ := elm_inv h9
  obtain ⟨ag2, sz2, z2, k2, c2, h13, h14⟩ := ti_inv h12
  have ht2 := htt _ _ _ _ _ _ h13
  have hu : P.underlying t = some (.slice e) := (htt _ _ _ _ _ _ h11).kd
  obtain ⟨i, zv, k3, k4, k5, k6, k7, k8⟩ := ht2.info
  have hle : n ≤ c := Nat.le_of_ble_eq_true h5
  have hc := lim_le h7
  obtain ⟨zr, q1, q2, q3⟩ := rep_spec (m := sz2) k7.1 64 c some (by omega)
  rw [q1] at h14
  cases h14
  have hrr := rep_rr (φ := φ) (k7.mono (noP_le φ)) k8 q2 q3
  obtain ⟨kx, e1⟩ := count_ok hx h1
  obtain ⟨ky, e2⟩ := count_ok hy h3
  have hb : (i.bytes : Int) * (c : Int) ≤ 281474976710656 := by
    have : i.bytes * c ≤ 65536 * 1000000 := Nat.mul_le_mul k5 hc
    have h : ((i.bytes * c : Nat) : Int) ≤ 281474976710656 := by omega
    rwa [Int.natCast_mul] at h
  have hr := run_make (P := P) w t e i zv hu k3 k6 kx ky n c (by omega) (by omega) hb (by omega)
  refine ⟨_, e, .slice (some ⟨w.heap.size, 0, none⟩) n c, hrr, ?_, fun φ' b hb _ => q_ok hb (by simp only [maxLen]; omega) hle⟩
  simp only [execOp, e1, e2, Sem.run_bind, hr, Result.andThen_ok, Sem.run_pure]
  simp [madeCells, k4]
/-- The operations that make a block and nothing else. -/
def isNw : Op → Bool
  | .alloc _ | .buildSlice _ _ _ | .makeSlice _ _ _ => true
  | _ => false
theorem nw_ok (htt : TtS P tt) {o : Op} (hk : isNw o = true) (hf : fits o = true) (h : opr o tt ty f W = .ok v W') : ∃ r mk, (∀ W2, opr o tt ty f W2 = W2.new r fun b w => .ok (mk b) w) ∧
    ∀ (φ : Ph) (ρ : Operand → Value) (w : World), Rd φ f ρ o → NewS P φ mk r w ((execOp ρ ⟨d, o, ty, ps, af, g⟩).run P w) := by
  cases o with
  | alloc e =>
    obtain ⟨r, mk, h1, h2⟩ := n_alloc (f := f) (d := d) (ps := ps) (af := af) (g := g) htt h
    exact ⟨r, mk, h1, fun φ ρ w _ => h2 φ ρ w⟩
  | buildSlice t n qs =>
    obtain ⟨r, mk, h1, h2⟩ := n_bslice (d := d) (ps := ps) (af := af) (g := g) htt (Nat.le_of_ble_eq_true hf) h
    exact ⟨r, mk, h1, fun φ ρ w hx => h2 φ ρ w fun p hp => hx p.2 (by simp only [Op.operands]; exact List.mem_map.2 ⟨p, hp, rfl⟩)⟩
  | makeSlice t x y =>
    obtain ⟨r, mk, h1, h2⟩ := n_mks (d := d) (ps := ps) (af := af) (g := g) htt h
    exact ⟨r, mk, h1, fun φ ρ w hx => h2 φ ρ w (hx x (by simp [Op.operands])) (hx y (by simp [Op.operands]))⟩
  | _ => cases hk
/-- The operations that leave memory as it is, whatever it is. -/
noncomputable def isPu (tt : T Ti) : Op → Bool
  | .move _ | .assign _ | .pick _ _ _ | .build _ _ | .nilCheck _ | .binOp _ _ _ _ _ | .unOp _ _ _ | .makeFunc _ _ _ | .slice _ _ _ _ _ | .fieldAddr _ _ _ | .field _ _ _ | .indexAddr _ _ _ | .index _ _ _ | .extract _ _ => true
  | .convert _ t _ => match T.get (pth t) tt with
    | some (.mk _ _ _ (.nt _) _) => true
    | _ => false
  | .call { callee := .builtin .len, .. } | .call { callee := .builtin .max, .. } | .call { callee := .builtin .min, .. } => true
  | _ => false
theorem rv_all {o : Option V} (h : rv W o = .ok v W') : W' = W ∧ ∀ W2, rv W2 o = .ok v W2 := by
  obtain ⟨e, e2⟩ := rv_inv h
  exact ⟨e2, fun W2 => by rw [e]; rfl⟩
theorem rA_all {o : Option A} (h : rA W o = .ok v W') : W' = W ∧ ∀ W2, rA W2 o = .ok v W2 := by
  obtain ⟨a, e, e1, e2⟩ := rA_inv h
  exact ⟨e2, fun W2 => by rw [e, e1]; rfl⟩
theorem oR_all {α : Type} {o : Option α} {k : I.W → α → Rs} (h : oR o (k W) = .ok v W') (hk : ∀ x, k W x = .ok v W' → W' = W ∧ ∀ W2, k W2 x = .ok v W2) : W' = W ∧ ∀ W2, oR o (k W2) = .ok v W2 := by
  cases o with
  | none => cases h
  | some x => exact hk x h
theorem pu_ok {o : Op} (hk : isPu tt o = true) (h : opr o tt ty f W = .ok v W') : W' = W ∧ ∀ W2, opr o tt ty f W2 = .ok v W2 := by
  cases o with
  | move x => exact rv_all h
  | assign x => exact rv_all h
  | pick c a b => exact rv_all h
  | build t qs => exact oR_all (k := fun W r => Rs.ok (.g r) W) h fun x h => by cases h; exact ⟨rfl, fun _ => rfl⟩
  | nilCheck x => exact rv_all h
  | binOp op t x y t2 => exact rA_all h
  | unOp op t x => exact rA_all h
  | makeFunc fn x y => exact rA_all h
  | slice t x lo hi mx => exact rv_all h
  | fieldAddr t x i => exact rv_all h
  | field t x i => exact rv_all h
  | indexAddr t x y => exact rv_all h
  | index t x y => exact rv_all h
  | extract x i => exact rv_all h
  | convert s t x =>
    refine oR_all (k := fun W _ => oR (ev f x) fun (v : V) => v.nC (fun a => oR (ti tt t fun _ _ _ k => some k) fun k => a.nI (fun j n => k.int (fun k => fN (conv j k n) fun m => .ok (.c (.i k m)) W) .no) (a.nS (fun l => s2b tt W l k) .no)) .no) h fun _ h => ?_
    refine oR_all (k := fun W (v : V) => v.nC (fun a => oR (ti tt t fun _ _ _ k => some k) fun k => a.nI (fun j n => k.int (fun k => fN (conv j k n) fun m => .ok (.c (.i k m)) W) .no) (a.nS (fun l => s2b tt W l k) .no)) .no) h fun u h => ?_
    obtain ⟨a, rfl, h2⟩ := nCR_inv h
    obtain ⟨k, h3, h4⟩ := oR_inv h2
    obtain ⟨ag, sz, z, k', c, h5, h6⟩ := ti_inv h3
    cases h6
    have hk' : (match T.get (pth t) tt with | some (.mk _ _ _ (.nt _) _) => true | _ => false) = true := hk
    rw [h5] at hk'
    cases k <;> try (cases hk')
    rename_i k
    have h7 : oR (ti tt t fun _ _ _ k => some k) (fun k => a.nI (fun j n => k.int (fun k => fN (conv j k n) fun m => .ok (.c (.i k m)) W) .no) (a.nS (fun l => s2b tt W l k) .no)) = .ok v W' := h2
    cases a with
    | i j n =>
      cases h4
      exact ⟨rfl, fun W2 => by show oR (ti tt t fun _ _ _ k => some k) (fun k => A.nI (.i j n) (fun j n => k.int (fun k => fN (conv j k n) fun m => .ok (.c (.i k m)) W2) .no) _) = _; rw [h3]; rfl⟩
    | s l =>
      have h8 : s2b tt W l (.nt k) = .ok v W' := h4
      cases h8
    | _ => cases h4
  | call c =>
    obtain ⟨cal, ⟨as⟩, ats⟩ := c
    cases cal with
    | builtin b =>
      refine oR_all (k := fun W l => bFn b tt ats.toList l W) h fun l h => ?_
      cases b with
      | len => exact rv_all h
      | max => exact rv_all h
      | min => exact rv_all h
      | _ => cases hk
    | _ => cases hk
  | _ => cases hk
/-- What is loaded, once more. -/
theorem ld_again {t : TypeId} {x : Operand} {a : V} (he : ev f x = some a) (h : (ti tt t fun ag n _ _ => ite' ag (W.ldn a n) (W.ld1 a)) = some v) : opr (.load t x) tt ty f W = .ok v W := by
  show rv W (ob (ev f x) fun a => ti tt t fun ag n _ _ => ite' ag (W.ldn a n) (W.ld1 a)) = _
  rw [he, ob_some, h]; rfl
theorem ld_inv {t : TypeId} {x : Operand} (h : opr (.load t x) tt ty f W = .ok v W') : W' = W ∧ ∃ a, ev f x = some a ∧ ((ti tt t fun ag n _ _ => ite' ag (W.ldn a n) (W.ld1 a)) = some v) := by
  obtain ⟨e, e2⟩ := rv_inv (show rv W (ob (ev f x) fun a => ti tt t fun ag n _ _ => ite' ag (W.ldn a n) (W.ld1 a)) = _ from h)
  obtain ⟨a, h1, h2⟩ := ob_inv e
  exact ⟨e2, a, h1, h2⟩
/-! ### The same value -/
theorem eqB_eq {a b : Bool} (h : eqB a b = true) : a = b := by cases a <;> cases b <;> first | rfl | cases h
theorem A.same_eq {a b : A} (h : a.same b = true) : a = b := by
  cases a <;> cases b <;> first | rfl | (cases h; done) | skip
  · rename_i k n k2 m
    have h : ite' (Nat.beq (ikd k) (ikd k2)) (Nat.beq n m) false = true := h
    cases e : Nat.beq (ikd k) (ikd k2) with
    | true => rw [e] at h; rw [ikd_inj e, Nat.eq_of_beq_eq_true h]
    | false => rw [e] at h; cases h
  · rw [eqB_eq h]
  · rename_i p n q m
    have h : ite' (p.eq q) (Nat.beq n m) false = true := h
    cases e : p.eq q with
    | true => rw [e] at h; rw [(P4.eq_iff _ _).1 e, Nat.eq_of_beq_eq_true h]
    | false => rw [e] at h; cases h
  · rename_i b o n k c b2 o2 n2 k2 c2
    have h : ite' (b.eq b2) (ite' (Nat.beq o o2) (ite' (Nat.beq n n2) (ite' (eqB k k2) (Nat.beq c c2) false) false) false) false = true := h
    cases e1 : b.eq b2 <;> rw [e1] at h <;> try (cases h; done)
    cases e2 : Nat.beq o o2 <;> rw [e2] at h <;> try (cases h; done)
    cases e3 : Nat.beq n n2 <;> rw [e3] at h <;> try (cases h; done)
    cases e4 : eqB k k2 <;> rw [e4] at h <;> try (cases h; done)
    rw [(P4.eq_iff _ _).1 e1, Nat.eq_of_beq_eq_true e2, Nat.eq_of_beq_eq_true e3, eqB_eq e4, Nat.eq_of_beq_eq_true h]
theorem R.same_eq : ∀ {r s : R}, r.same s = true → r = s
  | .e, s, h => by cases s <;> first | rfl | cases h
  | .c a, s, h => by
    cases s with
    | c b => rw [A.same_eq (show a.same b = true from h)]
    | _ => cases h
  | .n ls sz l r, s, h => by
    cases s with
    | n ls2 sz2 l2 r2 =>
      have h : ite' (Nat.beq ls ls2) (ite' (Nat.beq sz sz2) (ite' (l.same l2) (r.same r2) false) false) false = true := h
      cases e1 : Nat.beq ls ls2 <;> rw [e1] at h <;> try (cases h; done)
      cases e2 : Nat.beq sz sz2 <;> rw [e2] at h <;> try (cases h; done)
      cases e3 : l.same l2 <;> rw [e3] at h <;> try (cases h; done)
      rw [Nat.eq_of_beq_eq_true e1, Nat.eq_of_beq_eq_true e2, R.same_eq e3, R.same_eq (show r.same r2 = true from h)]
    | _ => cases h
theorem V.same_eq {x y : V} (h : x.same y = true) : x = y := by
  cases x <;> cases y <;> first | (cases h; done) | skip
  · rw [A.same_eq h]
  · rw [R.same_eq h]
end
end I
end Go.Proofs.YtladkmnfmpojiaaGreatDoor
namespace Go.Proofs.YtladkmnfmpojiaaGreatDoor
namespace I
/-- From one moment to the next, of what lay there when there were n blocks. -/
structure KpN (n : Nat) (φ φ' : Ph) (W W' : I.W) : Prop where
  nx : ∃ m' n', W' = .mk m' (pth n') ∧ n ≤ n'
  same : ∀ b, b.num < n → φ' b = φ b
  le : φ.le φ'
  old : ∀ b, b.num < n → φ b = none → T.get b W'.m = T.get b W.m
def nxt (n : Nat) (W : I.W) : Prop := ∃ m k, W = .mk m (pth k) ∧ n ≤ k
section
variable {P : Program} {tb : Tb} {φ φ' φ'' : Ph} {w0 w : World} {W W' W'' : I.W} {f : T V} {n n' : Nat}
theorem KpN.refl (h : nxt n W) : KpN n φ φ W W := ⟨h, fun _ _ => rfl, le_refl φ, fun _ _ _ => rfl⟩
theorem KpN.trans (h : KpN n φ φ' W W') (h' : KpN n φ' φ'' W' W'') : KpN n φ φ'' W W'' :=
  ⟨h'.nx, fun b hb => (h'.same b hb).trans (h.same b hb), h.le.trans h'.le, fun b hb e => (h'.old b hb ((h.same b hb).trans e)).trans (h.old b hb e)⟩
theorem KpN.less (hn : n' ≤ n) (h : KpN n φ φ' W W') : KpN n' φ φ' W W' := by
  obtain ⟨⟨m, k, e, hk⟩, h2, h3, h4⟩ := h
  exact ⟨⟨m, k, e, by omega⟩, fun b hb => h2 b (by omega), h3, fun b hb => h4 b (by omega)⟩
theorem nxt.less (hn : n' ≤ n) : nxt n W → nxt n' W := fun ⟨m, k, e, h⟩ => ⟨m, k, e, by omega⟩
theorem KpN.of (h : Kp φ φ' W W') (H : HR φ w0 W w) (hn : nxt n W) : KpN n φ φ' W W' := by
  obtain ⟨m, k, rfl, hk⟩ := hn
  obtain ⟨⟨m', n', e, h1⟩, h2, h3⟩ := h.old k ⟨m, rfl⟩
  exact ⟨⟨m', n', e, by omega⟩, fun b hb => h2 b (by omega), h.le H, fun b hb => h3 b (by omega)⟩
theorem HR.nxt (H : HR φ w0 W w) : ∃ n, I.nxt n W ∧ (∀ b, φ b ≠ none → b.num < n) ∧ (∀ b, T.get b W.m ≠ none → b.num < n) ∧ ∃ m, W = .mk m (pth n) := by
  obtain ⟨m, n, rfl, h1, h2⟩ := H.x
  exact ⟨n, ⟨m, n, rfl, Nat.le_refl _⟩, h1, h2, m, rfl⟩

/-! ### Variables -/
noncomputable def pd (d : Option Nat) (f : T V) (v : V) : T V := match d with
  | some d => T.put (pth d) f v
  | none => f
theorem putD_eq (d : Option Nat) (f : T V) (v : V) (c : T V → Cfg) : putD d f v c = c (pd d f v) := by
  cases d with
  | none => rfl
  | some d => exact setK_eq _ _ _ _
theorem pd_get {d : Option Nat} {f : T V} {v u : V} {t : Nat} (h : T.get (pth t) (pd d f v) = some u) : (d = some t ∧ u = v) ∨ (d ≠ some t ∧ T.get (pth t) f = some u) := by
  cases d with
  | none => exact .inr ⟨by simp, h⟩
  | some d =>
    by_cases e : t = d
    · subst e
      have h : T.get (pth t) (T.put (pth t) f v) = some u := h
      rw [get_put_self] at h
      injection h with h
      exact .inl ⟨rfl, h.symm⟩
    · have h : T.get (pth t) (T.put (pth d) f v) = some u := h
      rw [get_put_ne _ _ _ _ fun e2 => e (pth_inj e2)] at h
      exact .inr ⟨fun e2 => by injection e2 with e2; exact e e2.symm, h⟩
theorem put_same {a : Act} {d : Option Tmp} {v : Value} {t : Nat} (h : d ≠ some t) : (a.put d v).tmps.getD t undef = a.tmps.getD t undef := by
  cases d with
  | none => rfl
  | some d =>
    have : d ≠ t := fun e => h (by rw [e])
    simp [Act.put, Array.getElem?_setIfInBounds_ne this]
theorem put_self {a : Act} {d : Nat} {v : Value} (h : d < a.tmps.size) : (a.put (some d) v).tmps.getD d undef = v := by simp [Act.put, h]
theorem put_size {a : Act} {d : Option Tmp} {v : Value} : (a.put d v).tmps.size = a.tmps.size := by cases d <;> simp [Act.put]
theorem put_defers {a : Act} {d : Option Tmp} {v : Value} : (a.put d v).defers = a.defers := by cases d <;> rfl
def FR (φ : Ph) (f : T V) (a : Act) : Prop := ∀ t u, T.get (pth t) f = some u → VR φ u (a.tmps.getD t undef)
theorem FR.mono {a : Act} (h : FR φ f a) (hl : φ.le φ') : FR φ' f a := fun t u e => (h t u e).mono hl
theorem FR.put {a : Act} {d : Option Nat} {v : V} {u : Value} (h : FR φ f a) (hv : VR φ v u) (hd : ∀ t, d = some t → t < a.tmps.size) : FR φ (pd d f v) (a.put d u) := fun t x e => by
  rcases pd_get e with ⟨rfl, rfl⟩ | ⟨h1, h2⟩
  · rw [put_self (hd t rfl)]; exact hv
  · rw [put_same h1]; exact h t x h2
theorem FR.rd {a : Act} {o : Op} (h : FR φ f a) (H : HR φ w0 W w) : Rd φ f a.eval o := fun _ _ => ev_ok H.gl fun t _ => h t
theorem un_ok : VR φ .un undef := rfl
theorem vr_bool {v : V} {b : Bool} (h : VR φ v (.bool b)) : v = .c (.b b) := by
  cases v with
  | c a =>
    cases a with
    | b x => have : Value.bool b = .bool x := h; injection this with this; rw [this]
    | i k n => have h : _ ∧ _ := h; cases h.2
    | s l => obtain ⟨_, h, _⟩ := h; cases h
    | p x o => obtain ⟨_, _, _, _, h⟩ := h; cases h
    | q b o n kn c => obtain ⟨_, _, _, _, _, _, h, _⟩ := h; cases h
    | f i x y => obtain ⟨_, _, h, _⟩ := h; cases h
    | _ => cases h
  | g r => obtain ⟨_, h, _⟩ := h; cases h
  | un => cases h
  | k x y => obtain ⟨_, h, _⟩ := h; cases h

/-! ### Guards -/
/-- The operation's guard lets it run. -/
def Gp (l : List Oper) (f : T V) (o : Oper) : Prop := o.guard = none ∨ ∃ i b, o.guard = some (i, b) ∧ guardB l f i b = some true
def Gs (l : List Oper) (f : T V) (o : Oper) : Prop := ∃ i b, o.guard = some (i, b) ∧ guardB l f i b = some false
/-- What the guard looks at. -/
def GdR (φ : Ph) (ops : Array Oper) (f : T V) (a : Act) (o : Oper) : Prop := ∀ i b, o.guard = some (i, b) → ∀ d, (ops[i]?).bind (·.dst) = some d → ∀ u, T.get (pth d) f = some u → VR φ u (a.tmps.getD d undef)
theorem dstOf_eq (ops : Array Oper) (j : Nat) : dstOf ops.toList j = (ops[j]?).bind (·.dst) := by
  show ob (nth ops.toList j) (fun o => o.dst) = _
  rw [nth_eq, Array.getElem?_toList]
  cases ops[j]? <;> rfl
theorem guard_ok {ops : Array Oper} {a : Act} {o : Oper} {i : Nat} {b y : Bool} (hg : o.guard = some (i, b)) (h : guardB ops.toList f i b = some y) (hr : GdR φ ops f a o) : Region.wanted o (yielded ops a.tmps) = y := by
  obtain ⟨d, h1, h2⟩ := ob_inv h
  obtain ⟨v, h3, h4⟩ := ob_inv h2
  rw [dstOf_eq] at h1
  have h5 := hr i b hg d h1 v h3
  have h6 : yielded ops a.tmps i = match a.tmps[d]? with
      | some (.bool b) => some b
      | _ => none := by
    unfold yielded
    rw [h1]
    rfl
  simp only [Region.wanted, hg, h6]
  cases e : a.tmps[d]? with
  | none =>
    have : a.tmps.getD d undef = undef := by simp [e]
    rw [this] at h5
    have hb : ∀ x, v ≠ .c (.b x) := fun x e2 => by subst e2; cases h5
    have : y = false := by
      cases v with
      | c a => cases a with
        | b x => exact absurd rfl (hb x)
        | _ => cases h4; rfl
      | _ => cases h4; rfl
    subst this; rfl
  | some u =>
    have : a.tmps.getD d undef = u := by simp [e]
    rw [this] at h5
    by_cases hu : ∃ x, u = .bool x
    · obtain ⟨x, rfl⟩ := hu
      rw [vr_bool h5] at h4
      cases h4
      cases x <;> cases b <;> rfl
    · have hb : ∀ x, v ≠ .c (.b x) := fun x e2 => by subst e2; exact hu ⟨x, h5⟩
      have : y = false := by
        cases v with
        | c a => cases a with
          | b x => exact absurd rfl (hb x)
          | _ => cases h4; rfl
        | _ => cases h4; rfl
      subst this
      cases u <;> first | rfl | exact absurd ⟨_, rfl⟩ hu
theorem gp_ok {ops : Array Oper} {a : Act} {o : Oper} (h : Gp ops.toList f o) (hr : GdR φ ops f a o) : Region.wanted o (yielded ops a.tmps) = true := by
  rcases h with h | ⟨i, b, h, h2⟩
  · simp only [Region.wanted, h]
  · exact guard_ok h h2 hr
theorem gs_ok {ops : Array Oper} {a : Act} {o : Oper} (h : Gs ops.toList f o) (hr : GdR φ ops f a o) : Region.wanted o (yielded ops a.tmps) = false := by
  obtain ⟨i, b, h, h2⟩ := h
  exact guard_ok h h2 hr

/-! ### What the machine does with an operation -/
theorem stp2_inv {o : Oper} {h : CallC} {c : Cont} : stp2 tb o f W h c = .no ∨ (∃ v W', opr o.op tb.tt o.type f W = .ok v W' ∧ stp2 tb o f W h c = c (pd o.dst f v) W') ∨
    ∃ i l e, cl1 o.op f = some (i, l) ∧ T.get (pth i) tb.ft = some e ∧ ((∃ fn, e = .fn fn ∧ stp2 tb o f W h c = h o.dst fn l f W) ∨ ∃ g v, e = .own g ∧ g l W = some v ∧ stp2 tb o f W h c = c (pd o.dst f v) W) := by
  unfold stp2
  cases e : opr o.op tb.tt o.type f W with
  | ok v W' => exact .inr (.inl ⟨v, W', rfl, putD_eq _ _ _ _⟩)
  | no =>
    cases e2 : cl1 o.op f with
    | none => exact .inl rfl
    | some p =>
      obtain ⟨i, l⟩ := p
      cases e3 : T.get (pth i) tb.ft with
      | none => exact .inl (by show Option.rec (motive := fun _ => Cfg) .no _ (T.get (pth i) tb.ft) = _; rw [e3])
      | some x =>
        cases x with
        | fn fn => exact .inr (.inr ⟨i, l, _, rfl, e3, .inl ⟨fn, rfl, by show Option.rec (motive := fun _ => Cfg) .no _ (T.get (pth i) tb.ft) = _; rw [e3]⟩⟩)
        | own g =>
          cases e4 : g l W with
          | none => exact .inl (by show Option.rec (motive := fun _ => Cfg) .no _ (T.get (pth i) tb.ft) = _; rw [e3]; show Option.rec (motive := fun _ => Cfg) .no _ (g l W) = _; rw [e4])
          | some v => exact .inr (.inr ⟨i, l, _, rfl, e3, .inr ⟨g, v, rfl, e4, by show Option.rec (motive := fun _ => Cfg) .no _ (T.get (pth i) tb.ft) = _; rw [e3]; show Option.rec (motive := fun _ => Cfg) .no _ (g l W) = _; rw [e4]; exact putD_eq _ _ _ _⟩⟩)
theorem stp_inv {l : List Oper} {o : Oper} {h : CallC} {c : Cont} : stp tb l o f W h c = .no ∨ (Gs l f o ∧ stp tb l o f W h c = c (pd o.dst f .un) W) ∨ (Gp l f o ∧ stp tb l o f W h c = stp2 tb o f W h c) := by
  unfold stp
  cases e : o.guard with
  | none => exact .inr (.inr ⟨.inl e, rfl⟩)
  | some p =>
    obtain ⟨i, b⟩ := p
    cases e2 : guardB l f i b with
    | none => exact .inl (by show Option.rec (motive := fun _ => Cfg) .no _ (guardB l f i b) = _; rw [e2])
    | some y =>
      cases y with
      | true => exact .inr (.inr ⟨.inr ⟨i, b, e, e2⟩, by show Option.rec (motive := fun _ => Cfg) .no _ (guardB l f i b) = _; rw [e2]; rfl⟩)
      | false => exact .inr (.inl ⟨⟨i, b, e, e2⟩, by show Option.rec (motive := fun _ => Cfg) .no _ (guardB l f i b) = _; rw [e2]; exact putD_eq o.dst f .un fun f => c f W⟩)
end
end I
end Go.Proofs.YtladkmnfmpojiaaGreatDoor
namespace Go.Proofs.YtladkmnfmpojiaaGreatDoor
namespace I
def okO (N : Nat) (o : Oper) : Bool := fits o.op && (match o.dst with | some d => Nat.ble (Nat.succ d) N | none => true) && (match o.op with | .store _ _ _ => o.dst.isNone | _ => true)
/-- A function of its own: what it answers. -/
def Own (P : Program) (w0 : World) (i : FuncId) (g : List V → I.W → Option V) : Prop :=
  (∀ args w, (callFunc i args).run P w = .ok (.enter i args) w) ∧ ∀ (φ : Ph) (W : I.W) (w : World) (l : List V) (us : List Value) (v : V), HR φ w0 W w → All2 (VR φ) l us → g l W = some v →
    Calls P i us.toArray w fun e w' => match e with
      | .returned u => VR φ v u ∧ HR φ w0 W w'
      | _ => False
section
variable {P : Program} {tb : Tb} {φ φ' φ'' : Ph} {w0 w : World} {W W' W'' : I.W} {f : T V} {n n' : Nat}
theorem enter_ok {i : FuncId} {fn : Func} (h : P.funcs[i]? = some fn) (hn : fn.name ≠ "runtime.NumGoroutine") (hb : fn.body ≠ none) (args : Array Value) : (callFunc i args).run P w = .ok (.enter i args) w := by
  simp [callFunc, h, hn, hb]
theorem finish_at {b : Frame} {a : Act} {ops : Array Oper} {o : Oper} {j : Nat} {rest : List Nat} {t : List Item} (ho : ops[j]? = some o) (u : Value) :
    (b.at a (.inRegion ops (j :: rest) :: t)).finish u = b.at (a.put o.dst u) (.inRegion ops rest :: t) := by
  rw [Frame.finish_at, ho]; rfl
/-- A value, or none, and the model is a step further. -/
theorem op_step {b : Frame} {a : Act} {ops : Array Oper} {o : Oper} {j : Nat} {rest : List Nat} {t : List Item} {cs : List Frame} {u : Value} {w' : World} (ho : ops[j]? = some o) (hw : Region.wanted o (yielded ops a.tmps) = true)
    (hr : (execOp a.eval o).run P w = .ok (.value u) w' ∨ ((execOp a.eval o).run P w = .ok .skip w' ∧ u = undef)) :
    Steps P (lone (b.at a (.inRegion ops (j :: rest) :: t)) cs w) (lone (b.at (a.put o.dst u) (.inRegion ops rest :: t)) cs w') := by
  refine .one (step_lone_go ?_)
  rw [stepG_op ho hw, ← finish_at ho]
  rcases hr with hr | ⟨hr, rfl⟩ <;> simp [stepG.apply, hr]
theorem skip_step {b : Frame} {a : Act} {ops : Array Oper} {o : Oper} {j : Nat} {rest : List Nat} {t : List Item} {cs : List Frame} (ho : ops[j]? = some o) (hw : Region.wanted o (yielded ops a.tmps) = false) :
    Steps P (lone (b.at a (.inRegion ops (j :: rest) :: t)) cs w) (lone (b.at (a.put o.dst undef) (.inRegion ops rest :: t)) cs w) := by
  have h := step_op_skip (P := P) (b := b) (a := a) (k := t) (cs := cs) (w := w) (rest := rest) (i := j) (ops := ops) (by simp [ho, hw])
  rw [ho] at h
  exact .one h
theorem call_step {b : Frame} {a : Act} {ops : Array Oper} {o : Oper} {j i : Nat} {rest : List Nat} {t : List Item} {cs : List Frame} {args : Array Value} (ho : ops[j]? = some o) (hw : Region.wanted o (yielded ops a.tmps) = true)
    (hr : (execOp a.eval o).run P w = .ok (.enter i args) w) :
    Steps P (lone (b.at a (.inRegion ops (j :: rest) :: t)) cs w) (lone (Frame.enter P i args .normal) (b.at a (.inRegion ops (j :: rest) :: t) :: cs) w) := by
  refine .one (step_lone_go ?_)
  rw [stepG_op ho hw]
  simp [stepG.apply, hr, Frame.at]
/-- The machine's step is the model's. -/
theorem stp_sim {b : Frame} {a : Act} {ops : Array Oper} {o : Oper} {j N : Nat} {rest : List Nat} {t : List Item} {cs : List Frame} {h : CallC} {c : Cont} (htt : TtS P tb.tt)
    (hft : ∀ i e, T.get (pth i) tb.ft = some e → (∃ fn, e = .fn fn ∧ P.funcs[i]? = some fn ∧ fn.name ≠ "runtime.NumGoroutine" ∧ fn.body ≠ none) ∨ ∃ g, e = .own g ∧ Own P w0 i g)
    (ho : ops[j]? = some o) (hok : okO N o = true) (H : HR φ w0 W w) (hrd : Rd φ f a.eval o.op) (hgd : GdR φ ops f a o) :
    stp tb ops.toList o f W h c = .no ∨
    (∃ v W' φ' u w', stp tb ops.toList o f W h c = c (pd o.dst f v) W' ∧ VR φ' v u ∧ HR φ' w0 W' w' ∧ Kp φ φ' W W' ∧
      Steps P (lone (b.at a (.inRegion ops (j :: rest) :: t)) cs w) (lone (b.at (a.put o.dst u) (.inRegion ops rest :: t)) cs w')) ∨
    ∃ i fn l us, stp tb ops.toList o f W h c = h o.dst fn l f W ∧ T.get (pth i) tb.ft = some (.fn fn) ∧ All2 (VR φ) l us ∧
      Steps P (lone (b.at a (.inRegion ops (j :: rest) :: t)) cs w) (lone (Frame.enter P i us.toArray .normal) (b.at a (.inRegion ops (j :: rest) :: t) :: cs) w) := by
  obtain ⟨d, op, ty, ps, af, g⟩ := o
  simp only [okO, Bool.and_eq_true] at hok
  obtain ⟨⟨hf, hd⟩, hst⟩ := hok
  rcases stp_inv (tb := tb) (l := ops.toList) (o := ⟨d, op, ty, ps, af, g⟩) (f := f) (W := W) (h := h) (c := c) with h1 | ⟨h1, h2⟩ | ⟨h1, h2⟩
  · exact .inl h1
  · exact .inr (.inl ⟨.un, W, φ, undef, w, h2, un_ok, H, Kp.refl, skip_step ho (gs_ok h1 hgd)⟩)
  · have hw := gp_ok h1 hgd
    rw [h2]
    rcases stp2_inv (tb := tb) (o := ⟨d, op, ty, ps, af, g⟩) (f := f) (W := W) (h := h) (c := c) with h3 | ⟨v, W', h3, h4⟩ | ⟨i, l, e, h3, h4, h5⟩
    · exact .inl h3
    · refine .inr (.inl ?_)
      obtain ⟨u, w', φ', k1, k2, k3, k4⟩ := op_ok (d := d) (ps := ps) (af := af) (g := g) htt (fun ⟨t, x, y, e⟩ => by
        have e : op = .store t x y := e
        subst e
        cases d with
        | none => rfl
        | some _ => cases hst) hf h3 hrd H
      exact ⟨v, W', φ', u, w', h4, k2, k3, k4, op_step ho hw k1⟩
    · obtain ⟨us, k1, k2⟩ := call_ok (d := d) (ty := ty) (ps := ps) (af := af) (g := g) (P := P) (w := w) h3 hrd
      rcases h5 with ⟨fn, rfl, h6⟩ | ⟨gg, v, rfl, h6, h7⟩
      · rcases hft _ _ h4 with ⟨fn', e, q1, q2, q3⟩ | ⟨_, e, _⟩
        · injection e with e
          subst e
          rw [enter_ok q1 q2 q3] at k2
          exact .inr (.inr ⟨i, fn, l, us, h6, h4, k1, call_step ho hw k2⟩)
        · cases e
      · rcases hft _ _ h4 with ⟨_, e, _⟩ | ⟨_, e, q1, q2⟩
        · cases e
        · injection e with e
          subst e
          rw [q1] at k2
          obtain ⟨e, w', fr, r1, r2, _, r4⟩ := q2 φ W w l us v H k1 h6 (b.at a (.inRegion ops (j :: rest) :: t) :: cs)
          cases e with
          | returned u =>
            refine .inr (.inl ⟨v, W, φ, u, w', h7, r1.1, r1.2, Kp.refl, (call_step ho hw k2).trans (Steps.trans r2 (.one ?_))⟩)
            rw [← finish_at ho]
            exact step_leave_returned r4
          | panicked _ => exact r1.elim
          | outgrown => exact r1.elim

/-! ### Results -/
def resF (tmps : Array Value) (r : ResultVar) : Sem Value := match r with
  | .tmp t => pure (tmps.getD t undef)
  | .cell x t => do loadVar t (← asAddr (tmps.getD x undef))
theorem results_eq (fn : Func) (tmps : Array Value) : results fn tmps = (fn.results.mapM (resF tmps)) >>= fun vs => pure (if h : vs.size = 1 then vs[0] else .tuple vs) := rfl
theorem resOne_ok {a : Act} (htt : TtS P tb.tt) {r : ResultVar} {v : V} (h : resOne tb.tt f W r = some v) (hf : FR φ f a) (H : HR φ w0 W w) :
    ∃ u, (resF a.tmps r).run P w = .ok u w ∧ VR φ v u := by
  cases r with
  | tmp t => exact ⟨_, rfl, hf t v h⟩
  | cell x t =>
    obtain ⟨y, h1, h2⟩ := ob_inv (show ob (T.get (pth x) f) (fun a => ti tb.tt t fun ag n _ _ => ite' ag (W.ldn a n) (W.ld1 a)) = some v from h)
    obtain ⟨ag, sz, z, k, c, h3, h4⟩ := ti_inv h2
    obtain ⟨ad, s, k1, k2, k3⟩ := ld_ok (htt _ _ _ _ _ _ h3) (hf x y h1) H h4
    exact ⟨s, by simp [resF, k1, asAddr, k2], k3⟩
theorem resL_ok {a : Act} (htt : TtS P tb.tt) (hf : FR φ f a) (H : HR φ w0 W w) : ∀ (l : List ResultVar) (v : V), resL tb.tt f W l = some v →
    ∃ us, (l.mapM (resF a.tmps)).run P w = .ok us w ∧ VL φ v us ∧ us.length = l.length
  | [], v, h => by cases h; exact ⟨[], rfl, rfl, rfl⟩
  | r :: l, v, h => by
    obtain ⟨x, h1, h2⟩ := ob_inv (show ob (resOne tb.tt f W r) (fun v => V.rec (motive := fun _ => Option V) (fun a => ob (resL tb.tt f W l) fun t => some (.k (.c a) t)) (fun r => ob (resL tb.tt f W l) fun t => some (.k (.g r) t)) none (fun _ _ _ _ => none) v) = some v from h)
    obtain ⟨u, k1, k2⟩ := resOne_ok htt h1 hf H
    have key : ∀ y, resL tb.tt f W l = some y → CR φ x u → v = .k x y → ∃ us, ((r :: l).mapM (resF a.tmps)).run P w = .ok us w ∧ VL φ v us ∧ us.length = (r :: l).length := fun y h3 h4 h5 => by
      obtain ⟨us, m1, m2, m3⟩ := resL_ok htt hf H l y h3
      subst h5
      refine ⟨u :: us, ?_, ⟨u, us, rfl, h4, m2⟩, by simp [m3]⟩
      rw [List.mapM_cons, Sem.run_bind, k1, Result.andThen_ok, Sem.run_bind, m1, Result.andThen_ok]
      rfl
    cases x with
    | c a =>
      obtain ⟨y, h3, h4⟩ := ob_inv h2
      cases h4
      exact key y h3 k2 rfl
    | g a =>
      obtain ⟨y, h3, h4⟩ := ob_inv h2
      cases h4
      exact key y h3 k2 rfl
    | un => cases h2
    | k _ _ => cases h2
theorem res_ok {a : Act} {fn : Func} {v : V} (htt : TtS P tb.tt) (hf : FR φ f a) (H : HR φ w0 W w) (h : resV tb.tt f W fn.results.toList = some v) : ∃ u, (results fn a.tmps).run P w = .ok u w ∧ VR φ v u := by
  rw [results_eq, Sem.run_bind, Array.mapM_eq_mapM_toList]
  cases e : fn.results.toList with
  | nil =>
    rw [e] at h
    cases h
    exact ⟨.tuple #[], rfl, rfl⟩
  | cons r l =>
    rw [e] at h
    cases l with
    | nil =>
      obtain ⟨u, k1, k2⟩ := resOne_ok htt (show resOne tb.tt f W r = some v from h) hf H
      refine ⟨u, ?_, k2⟩
      rw [List.mapM_cons, List.mapM_nil]
      simp only [map_bind, map_pure, pure_bind, Sem.run_bind, Sem.run_pure, k1, Result.andThen_ok]
      rfl
    | cons r2 l =>
      obtain ⟨us, m1, m2, m3⟩ := resL_ok htt hf H (r :: r2 :: l) v h
      refine ⟨.tuple us.toArray, ?_, ?_⟩
      · have : us.length ≠ 1 := by simp at m3; omega
        rw [Sem.run_map, m1]
        simp [this]
      · cases v with
        | k x y => exact ⟨us, rfl, m2⟩
        | un => have : us = [] := m2; subst this; simp at m3
        | c _ => exact m2.elim
        | g _ => exact m2.elim
end
end I
end Go.Proofs.YtladkmnfmpojiaaGreatDoor
