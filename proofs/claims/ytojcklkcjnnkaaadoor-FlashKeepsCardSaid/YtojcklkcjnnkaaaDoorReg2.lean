/-
  Whole statements without a choice: that the computed descriptions are right.
-/
import Derived.Test.YtojcklkcjnnkaaaDoorReg
namespace Go.Proofs.YtojcklkcjnnkaaaDoor
namespace V
section
variable {P : Program} {N n0 : Nat} {fx : Fx} {its its' : List Item} {κ : List Conc} {w : World} {tt : TT} {ld : Nat → Bool} {ops : Array Oper} {Kn : Act → World → Prop}
variable {d : Option Nat} {t : TypeId} {ps : String} {af : Array Edge} {gd : Option (Nat × Bool)} {E : Operand → Option SV} {l : Env}
theorem pick_ok {env : EnvC} (hw : WF env) {pa : List (Nat × Bool)} {g v : Bool} {s : Nat} {x y : Operand} {ec : Ent} {z : SV} (hf : Fits env pa g) (hg : g = true) (hc : evC env pa pa (.tmp s) = some (.c (.v (.bool v)))) (hs : lkC s env = some ec)
    (h : pickV x y v (evC env pa ((s, true) :: ec.pa) x) (evC env pa ((s, false) :: ec.pa) y) = some z) : RunV P N (denC κ env) ⟨d, .pick (.tmp s) x y, t, ps, af, gd⟩ w (z.den κ) := by
  have hc0 : ec.x = vb v ∧ tail? ec.pa pa = true := by
    simp only [evC, hs] at hc
    split at hc
    · rename_i ht
      injection hc with hc
      exact ⟨hc, by simpa using ht⟩
    · cases hc
  obtain ⟨hx0, htl⟩ := hc0
  have hec : Fits env ec.pa true := hf.tail hw hg htl
  have hgc : ec.g = true := Fits.det (hw s _ hs) hec
  have hce : lkC s env = some ⟨ec.pa, true, vb v⟩ := by rw [hs, ← hx0, ← hgc]
  have hsl := lkC_den (κ := κ) hce
  simp only [denX, SV.den, Cell.den] at hsl
  have way : ∀ b, gbit b v = true → Fits env ((s, b) :: ec.pa) true := fun b hb => ⟨true, v, hce, by cases ec.pa <;> simp [hb]⟩
  have out : ∀ q, (v = true → (∃ u, evC env pa ((s, true) :: ec.pa) x = some u ∧ u.den κ = q)) → (v = false → (∃ u, evC env pa ((s, false) :: ec.pa) y = some u ∧ u.den κ = q)) → RunV P N (denC κ env) ⟨d, .pick (.tmp s) x y, t, ps, af, gd⟩ w q := by
    intro q h1 h2
    cases hv : v with
    | true =>
      obtain ⟨u, hu, rfl⟩ := h1 hv
      exact rv_pick_t hsl hv (evC_ok hw hf hg (way true (by simp [gbit, hv])) rfl _ _ hu)
    | false =>
      obtain ⟨u, hu, rfl⟩ := h2 hv
      exact rv_pick_f hsl hv (evC_ok hw hf hg (way false (by simp [gbit, hv])) rfl _ _ hu)
  unfold pickV at h
  split at h
  · rename_i bx by' hbx hby
    split at h
    · injection h with h; subst h
      refine out _ (fun hv => ⟨_, hbx, by simp [SV.den, Cell.den, hv]⟩) (fun hv => ⟨_, hby, ?_⟩)
      simp only [evC, evS, Option.some.injEq] at hby
      injection hby with hby; injection hby with hby; injection hby with hby
      simp [SV.den, Cell.den, hv, ← hby]
    · injection h with h; subst h
      refine out _ (fun hv => ⟨_, hbx, ?_⟩) (fun hv => ⟨_, hby, by simp [SV.den, Cell.den, hv]⟩)
      simp only [evC, evS, Option.some.injEq] at hbx
      injection hbx with hbx; injection hbx with hbx; injection hbx with hbx
      simp [SV.den, Cell.den, hv, ← hbx]
    · injection h with h; subst h
      exact out _ (fun hv => ⟨_, hbx, by subst hv; rfl⟩) (fun hv => ⟨_, hby, by subst hv; rfl⟩)
  · cases h
theorem intsOf_ok : ∀ (cs : List Cell) {k : IntKind} {xs : List Int}, intsOf cs = some (k, xs) → cs.map (Cell.den κ) = xs.map (Value.int k)
  | [], k, xs, h => by cases h
  | c :: r, k, xs, h => by
    unfold intsOf at h
    split at h
    · rename_i k' x heq
      injection heq with h1 h2
      subst h1; subst h2
      simp only [Option.some.injEq, Prod.mk.injEq] at h
      obtain ⟨rfl, rfl⟩ := h
      rfl
    · rename_i k' x r' _ heq
      injection heq with h1 h2
      subst h1; subst h2
      split at h
      · rename_i k2 xs2 hi
        split at h
        · rename_i hk
          have := keq_eq hk
          subst this
          simp only [Option.some.injEq, Prod.mk.injEq] at h
          obtain ⟨rfl, rfl⟩ := h
          simp only [List.map_cons, intsOf_ok r hi, Cell.den]
        · cases h
      · cases h
    · cases h
theorem svE_len {op : Op} {e : Evi} {v : SV} {a b : List Int} (h : svE tt its E op e = some (v, a, b)) : a.length = b.length := by
  unfold svE at h
  split at h
  · split at h
    · split at h
      · simp only [Option.some.injEq, Prod.mk.injEq] at h
        obtain ⟨_, rfl, rfl⟩ := h
        rfl
      · cases h
    · cases h
  · split at h
    · split at h
      · split at h
        · rename_i hb
          simp only [Option.some.injEq, Prod.mk.injEq] at h
          obtain ⟨_, rfl, rfl⟩ := h
          simp only [Bool.and_eq_true, Nat.beq_eq] at hb
          simp [hb.2]
        · cases h
      · cases h
    · cases h
  · split at h
    · split at h
      · split at h
        · simp only [Option.some.injEq, Prod.mk.injEq] at h
          obtain ⟨_, rfl, rfl⟩ := h
          rfl
        · cases h
      · cases h
    · cases h
  · cases h
theorem svE_ok (htt : TTOk P tt) (S : Kno its κ w) (hE : ∀ x v, E x = some v → ev l x = some (v.den κ)) {op : Op} {e : Evi} {v : SV} {a : List Int} (h : svE tt its E op e = some (v, a, a)) : RunV P N l ⟨d, op, t, ps, af, gd⟩ w (v.den κ) := by
  unfold svE at h
  split at h
  · rename_i op ty0 x y ty2 op' k m n e he
    split at h
    · rename_i k1 m' k2 n' hx hy
      split at h
      · rename_i hb
        simp only [Option.some.injEq, Prod.mk.injEq] at h
        obtain ⟨rfl, h1, h2⟩ := h
        rw [← h1] at h2
        injection h2 with h2 h3
        injection h3 with h3
        subst h2; subst h3
        simp only [Bool.and_eq_true, Bool.or_eq_true] at hb
        obtain ⟨hk, ho, hk2⟩ := hb
        have hk' := keq_eq hk
        subst hk'
        have hx' := hE _ _ hx
        have hy' := hE _ _ hy
        simp only [SV.den, Cell.den] at hx' hy' ⊢
        have hqr : (op = .quo ∨ op = .rem) → k = k2 := by
          intro hq
          rcases hk2 with h | h
          · exact keq_eq h
          · exfalso; rcases hq with rfl | rfl <;> rcases h with h | h <;> cases h
        cases op <;> cases op' <;> first | cases ho | skip
        · have := hqr (.inl rfl); subst this; exact rv_quo hx' hy' he
        · have := hqr (.inr rfl); subst this; exact rv_rem hx' hy' he
        · exact rv_shl hx' hy' he
        · exact rv_shr hx' hy' he
      · cases h
    · cases h
  · rename_i s x i l0 iv e he
    split at h
    · rename_i cs k0 iv' n el _ _ _ _ hx hi hs
      split at h
      · rename_i k l' z by' hc hel
        split at h
        · rename_i hb
          simp only [Option.some.injEq, Prod.mk.injEq] at h
          obtain ⟨rfl, h1, h2⟩ := h
          rw [← h1] at h2
          injection h2 with h2 h3
          subst h2; subst h3
          simp only [Bool.and_eq_true, Nat.beq_eq] at hb
          have hx' := hE _ _ hx
          simp only [SV.den, intsOf_ok cs hc] at hx'
          have hlen : l0.length = n := by
            have := congrArg List.length (intsOf_ok (κ := κ) cs hc)
            simp at this
            omega
          exact rv_index1 (htt.get hs).und (htt.get hel).agg (htt.get hel).size hx' (hE _ _ hi) (by simpa using hlen) (idx_map he)
        · cases h
      · cases h
    · cases h
  · rename_i s x i j
    split at h
    · rename_i a0 k iv el _ _ _ _ a' iv' ow cs hx hi hs hj
      split at h
      · rename_i ti hel
        split at h
        · rename_i hb
          simp only [Option.some.injEq, Prod.mk.injEq] at h
          obtain ⟨rfl, h1, h2⟩ := h
          rw [← h1] at h2
          injection h2 with h2 h3
          subst h2
          simp only [Bool.and_eq_true, Nat.beq_eq] at hb
          obtain ⟨ha, hn⟩ := hb
          subst ha
          obtain ⟨c, _, hc1, hc2⟩ := S _ _ hj
          cases c with
          | a ad =>
            obtain ⟨_, _, A0, n', c', hk, had, h0, h1'⟩ := hc2
            have hx' := hE _ _ hx
            have hi' := hE _ _ hi
            simp only [SV.den, Cell.den, hk] at hx' hi' ⊢
            rw [hc1]
            simp only [ad_zero]
            subst had
            rw [hn]
            intro ac ha
            simp only [execOp, ha.ev hx', ha.ev hi', Sem.run_bind, run_indexAt (htt.get hs).und (htt.get hel).size h0 h1', Result.andThen_ok]; rfl
          | _ => exact hc2.elim
        · cases h
      · cases h
    · cases h
  · cases h

theorem kill_lt {n : Nat} {it : Item} (h : it.lt n = true) : it.kill.lt n = true := by
  cases it with
  | elt s ow cs => cases ow <;> first | exact h | rfl
  | _ => exact h
theorem kill_ow (it : Item) : it.kill.ow = false := by
  cases it with
  | elt s ow cs => cases ow <;> rfl
  | _ => rfl
theorem kl_length (its : List Item) : (kl its).length = its.length := by unfold kl; split <;> simp
theorem kl_get {i : Nat} {it : Item} (h : (kl its)[i]? = some it) : ∃ it0, its[i]? = some it0 ∧ it.ow = false ∧ (it = it0 ∨ it = .gone) := by
  unfold kl at h
  split at h
  · rw [List.getElem?_map] at h
    cases h0 : its[i]? with
    | none => simp [h0] at h
    | some it0 =>
      simp only [h0, Option.map_some, Option.some.injEq] at h
      subst h
      refine ⟨it0, rfl, kill_ow it0, ?_⟩
      cases it0 with
      | elt s ow cs => cases ow <;> first | exact .inl rfl | exact .inr rfl
      | _ => exact .inl rfl
  · rename_i ha
    refine ⟨it, h, ?_, .inl rfl⟩
    have : ∀ x ∈ its, x.ow = false := by
      intro x hx
      cases hx' : x.ow with
      | false => rfl
      | true =>
        exfalso
        have : its.any Item.ow = true := List.any_eq_true.2 ⟨x, hx, hx'⟩
        rw [this] at ha
        cases ha
    exact this it (List.mem_of_getElem? h)
theorem Lof_kl (its : List Item) (κ : List Conc) : Lof (kl its) κ = Lof its κ := by
  unfold kl
  split
  · unfold Lof
    rw [List.zipWith_map_left]
    congr 1
    funext it c
    cases it with
    | elt s ow cs => cases ow <;> cases c <;> rfl
    | _ => rfl
  · rfl
theorem St.kill {env : Env'} (S : St n0 fx env its κ w) : St n0 fx env (kl its) κ w := by
  refine ⟨by rw [kl_length]; exact S.len, S.pre, S.n0, by rw [kl_length]; exact S.sce, ?_, by rw [Lof_kl]; exact S.ctx, fun i it c h1 h2 => ?_⟩
  · rw [kl_length]
    unfold scI
    rw [List.all_eq_true]
    intro it hit
    obtain ⟨i, hi⟩ := List.getElem?_of_mem hit
    obtain ⟨it0, h0, _, h⟩ := kl_get hi
    have hs := S.sci
    unfold scI at hs
    rw [List.all_eq_true] at hs
    rcases h with rfl | rfl
    · exact hs _ (List.mem_of_getElem? h0)
    · rfl
  · rw [Lof_kl]
    obtain ⟨it0, h0, _, h⟩ := kl_get h1
    rcases h with rfl | rfl
    · exact S.ok i _ c h0 h2
    · cases c <;> trivial
/-- A variable is written. -/
theorem St.setB {env : Env'} (S : St n0 fx env its κ w) (how : ∀ it ∈ its, it.ow = false) {i b : Nat} {T : TypeId} {cs cs' : List Cell} {w' : World} (hi : its[i]? = some (.blk T cs)) (hc : κ[i]? = some (.b b)) (hl : cs'.all (Cell.lt its.length) = true)
    (h : Stored fx.U0 fx.X0 fx.w0 (Lof its κ) w b T (cs'.map (Cell.den κ)) w') : St n0 fx env (setB its i T cs') κ w' := by
  obtain ⟨hb, C, Tr⟩ := h
  have hil : i < its.length := (List.getElem?_eq_some_iff.1 hi).1
  have hL : Lof (V.setB its i T cs') κ = Lof its κ := by
    unfold V.setB
    apply List.ext_getElem?
    intro j
    by_cases hj : j = i
    · subst hj
      have h1 : (its.set j (.blk T cs'))[j]? = some (.blk T cs') := by rw [List.getElem?_set_self hil]
      rw [Lof_get h1 hc, Lof_get hi hc]
      rfl
    · unfold Lof
      rw [List.getElem?_zipWith, List.getElem?_zipWith, List.getElem?_set_ne (fun e => hj e.symm)]
  have key := S.next (env' := env) (its' := V.setB its i T cs') (κx := []) (w' := w') (X := [some b]) (fun j => j = i) (by simp [V.setB, S.len]) (by simpa [V.setB] using S.sce)
    (by
      unfold V.setB scI
      rw [List.length_set, List.all_eq_true]
      intro it hit
      have hs := S.sci
      unfold scI at hs
      rw [List.all_eq_true] at hs
      rcases List.mem_or_eq_of_mem_set hit with h | h
      · exact hs _ h
      · subst h; exact hl)
    (by rw [List.append_nil, hL]; exact C) (by rw [List.append_nil, hL]; exact Tr)
    (fun j it hj hne hit => by
      unfold V.setB at hit
      rw [List.getElem?_set_ne (fun e => hne e.symm)] at hit
      refine ⟨hit, how _ (List.mem_of_getElem? hit), fun c b' hc' hb' hm => ?_⟩
      rw [List.mem_singleton] at hm
      injection hm with hm
      subst hm
      have h1 := Lof_get hit hc'
      rw [hb'] at h1
      have h2 := Lof_get hi hc
      exact S.ctx.sep j i b' hne h1 h2)
    (fun j it c hj hit hc' => by
      rw [List.append_nil] at hc'
      rcases hj with hj | rfl
      · have := (List.getElem?_eq_some_iff.1 hit).1
        simp only [V.setB, List.length_set] at this
        omega
      · unfold V.setB at hit
        rw [List.getElem?_set_self hil] at hit
        injection hit with hit
        subst hit
        rw [hc] at hc'
        injection hc' with hc'
        subst hc'
        simpa [OK] using hb)
  rwa [List.append_nil] at key
theorem stR_ok {env0 : Env'} (htt : TTOk P tt) (S : St n0 fx env0 its κ w) (how : ∀ it ∈ its, it.ow = false) (hE : ∀ x v, E x = some v → ev l x = some (v.den κ)) {op : Op} {i : Nat} {T : TypeId} {cs : List Cell} (h : stR tt its E op = some (i, T, cs)) :
    RunSK P N l ⟨none, op, t, ps, af, gd⟩ w (fun w' => St n0 fx env0 (setB its i T cs) κ w') := by
  unfold stR at h
  split at h
  · rename_i ty x y
    split at h
    · rename_i i' o v ti hx hy ht
      split at h
      · rename_i T' cs0 vs hi hv
        split at h
        · rename_i hb
          simp only [Option.some.injEq, Prod.mk.injEq] at h
          obtain ⟨rfl, rfl, rfl⟩ := h
          simp only [Bool.and_eq_true, Nat.beq_eq, Nat.ble_eq] at hb
          obtain ⟨h1, h2, h3, h4⟩ := hb
          obtain ⟨c, hc1, hc2⟩ := S.conc hi
          cases c with
          | b b =>
            have hx' := hE _ _ hx
            simp only [SV.den, Cell.den, hc1] at hx'
            have hL : (Lof its κ)[i']? = some (some b) := by have := Lof_get hi hc1; exact this
            have hrun := rs_store (P := P) (N := N) (t := t) (ps := ps) (af := af) (g := gd) (htt.get ht).size hx' (hE _ _ hy) (cells_den S.kno hv) (by simpa using h1)
              (by
                rw [List.all_map, List.all_eq_true]
                intro c hc
                rw [List.all_eq_true] at h2
                exact okc_ok S.kno (h2 c hc)) hc2 hL S.ctx (by simp; omega) (cs' := (cs0.take o ++ vs ++ cs0.drop (o + vs.length)).map (Cell.den κ)) (by simp [List.map_append, List.map_take, List.map_drop])
            intro a ha
            obtain ⟨w', hr, hst⟩ := hrun a ha
            refine ⟨w', hr, S.setB how hi hc1 ?_ hst⟩
            have hsc : cs0.all (Cell.lt its.length) = true := by
              have hs := S.sci
              unfold scI at hs
              rw [List.all_eq_true] at hs
              exact hs _ (List.mem_of_getElem? hi)
            rw [List.all_append, List.all_append, all_take hsc, all_drop hsc, h3]
            rfl
          | _ => exact hc2.elim
        · cases h
      · cases h
    · cases h
  · cases h
end
end V
end Go.Proofs.YtojcklkcjnnkaaaDoor
