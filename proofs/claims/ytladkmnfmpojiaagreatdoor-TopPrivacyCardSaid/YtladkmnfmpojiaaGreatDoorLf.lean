/-
  Calls on descriptions.
-/
import Derived.Test.YtladkmnfmpojiaaGreatDoorLe
namespace Go.Proofs.YtladkmnfmpojiaaGreatDoor
namespace V
section
variable {P : Program} {N n0 : Nat} {fx : Fx} {its its' : List Item} {κ : List Conc} {w : World} {env env' : Env'} {js : List Jx} {tt : TT} {Kn : Act → World → Prop} {Ke : Nat → Act → World → Prop} {Kr : Act → World → Prop} {ops : Array Oper} {rest : List Oper}
theorem owned_of {t : Item} {c : Conc} {b : Nat} (h : own1 t c = some b) : t.owned = true := by
  cases t with
  | mp k R ow l => cases ow <;> cases c <;> first | rfl | cases h
  | _ => cases c <;> first | rfl | cases h
/-- Where an owned item of a view comes from. -/
theorem view_own {r : List Item} (hs : srcs its js its' = some r) (hr : renIs js its' = some r) (hb : bndJ its.length js = true) (hl : κ.length = its.length) {j b : Nat} (h : (Lof its' (js.map (cJ κ)))[j]? = some (some b)) :
    ∃ i t, js[j]? = some (.g i) ∧ its'[j]? = some t ∧ t.owned = true ∧ (Lof its κ)[i]? = some (some b) := by
  obtain ⟨t, c, h1, h2, h3⟩ := Lof_inv h
  obtain ⟨_, h4⟩ := srcs_get hs hr
  obtain ⟨jx, x, h5, h6, h7⟩ := h4 j t h1
  have ho := owned_of h3
  rw [List.getElem?_map, h5] at h2
  simp only [Option.map_some, Option.some.injEq] at h2
  subst h2
  have notlz : ∀ i : Nat, frz its[i]? = some x → False := by
    intro i hf
    cases hi : its[i]? with
    | none => rw [hi] at hf; cases hf
    | some it =>
      rw [hi] at hf
      cases it with
      | own sz E R l =>
        simp only [frz, Option.some.injEq] at hf
        subst hf
        cases t with
        | blk T cs => simp only [renI] at h7; cases hr : renL js cs <;> simp [hr] at h7
        | lm k3 l3 => simp only [renI] at h7; cases hr : renM js l3 <;> simp [hr] at h7
        | own sz' E' R' l' => simp only [renI, Option.some.injEq] at h7; cases h7
        | mp k' R' o' l' => simp only [renI, Option.some.injEq] at h7; cases h7
        | _ => cases ho
      | mp kk R ow l =>
        cases ow with
        | false => cases hf
        | true =>
        simp only [frz, Option.some.injEq] at hf
        subst hf
        cases t with
        | blk T cs => simp only [renI] at h7; cases hr : renL js cs <;> simp [hr] at h7
        | lm k3 l3 => simp only [renI] at h7; cases hr : renM js l3 <;> simp [hr] at h7
        | own sz' E' R' l' => simp only [renI, Option.some.injEq] at h7; cases h7
        | mp k' R' o' l' =>
          simp only [renI, Option.some.injEq] at h7
          cases h7
          cases ho
        | _ => cases ho
      | _ => cases hf
  cases jx with
  | g i =>
    have hlt : i < κ.length := by rw [hl]; exact bndJ_ok hb j i (.inl h5)
    have hci : κ[i]? = some κ[i] := List.getElem?_eq_getElem hlt
    refine ⟨i, t, h5, h1, ho, ?_⟩
    simp only [cJ, hci, Option.getD_some] at h3
    cases t with
    | blk T cs =>
      cases hr : renL js cs with
      | none => simp [renI, hr] at h7
      | some cs' =>
        simp only [renI, hr, Option.map_some, Option.some.injEq] at h7
        subst h7
        simp only [srcI] at h6
        have hi : its[i]? = some (.blk T cs') := by
          split at h6
          · cases h6
          · cases h6
          · exact h6
        have := Lof_get hi hci
        rw [this, ← h3]
        cases κ[i] <;> rfl
    | lm kk l =>
      cases hr : renM js l with
      | none => simp [renI, hr] at h7
      | some l' =>
        simp only [renI, hr, Option.map_some, Option.some.injEq] at h7
        subst h7
        simp only [srcI] at h6
        have hi : its[i]? = some (.lm kk l') := by
          split at h6
          · cases h6
          · cases h6
          · exact h6
        have := Lof_get hi hci
        rw [this, ← h3]
        cases κ[i] <;> rfl
    | own sz E R l =>
      simp only [renI, Option.some.injEq] at h7
      subst h7
      simp only [srcI] at h6
      have hi : its[i]? = some (.own sz E R l) := by
        split at h6
        · cases h6
        · cases h6
        · exact h6
      have := Lof_get hi hci
      rw [this, h3]
    | mp kk R ow l =>
      simp only [renI, Option.some.injEq] at h7
      subst h7
      simp only [srcI] at h6
      have hi : its[i]? = some (.mp kk R ow l) := by
        split at h6
        · cases h6
        · cases h6
        · exact h6
      have := Lof_get hi hci
      rw [this, h3]
    | _ => cases ho
  | l i =>
    cases t with
    | blk T cs => exact (notlz i h6).elim
    | lm kk l => exact (notlz i h6).elim
    | own sz E R l => exact (notlz i h6).elim
    | mp kk R ow l => exact (notlz i h6).elim
    | _ => cases ho
  | z i =>
    cases t with
    | blk T cs => exact (notlz i h6).elim
    | lm kk l => exact (notlz i h6).elim
    | own sz E R l => exact (notlz i h6).elim
    | mp kk R ow l => exact (notlz i h6).elim
    | _ => cases ho
  | n =>
    cases t with
    | blk T cs => cases h6
    | lm kk l => cases h6
    | own sz E R l => simp [cJ, own1, ob] at h3
    | mp kk R ow l => cases h6
    | _ => cases ho
  | o =>
    cases t with
    | blk T cs => cases h6
    | lm kk l => cases h6
    | own sz E R l => cases h6
    | mp kk R ow l =>
      cases ow with
      | true => cases h6
      | false => cases ho
    | _ => cases ho
  | k s =>
    cases t with
    | blk T cs => simp [cJ, own1] at h3
    | lm kk l => simp [cJ, own1] at h3
    | own sz E R l => simp [cJ, own1] at h3
    | mp kk R ow l => cases ow <;> simp [cJ, own1] at h3
    | _ => cases ho
/-- What a view must satisfy, beside the equations. -/
def vwB (n0 n : Nat) (js : List Jx) (env' : Env') (its' : List Item) (r : Option Env') (ri : Option (List Item)) : Bool :=
  preB n0 js && (bndJ n js && (okG js its' && (scE its'.length env' && (scI its'.length its' && (r.isSome && ri.isSome)))))
theorem St.view (S : St n0 fx env its κ w) (hI : renIs js its' = srcs its js its') (hB : vwB n0 its.length js env' its' (some []) (srcs its js its') = true) : St n0 fx env' its' (js.map (cJ κ)) w := by
  simp only [vwB, Bool.and_eq_true] at hB
  obtain ⟨h1, h2, h3, h4, h5, _, h6⟩ := hB
  obtain ⟨r, hr⟩ := Option.isSome_iff_exists.1 h6
  rw [hr] at hI
  obtain ⟨hlen, hget⟩ := srcs_get hr hI
  simp only [okG, Bool.and_eq_true] at h3
  obtain ⟨hnd, hfz⟩ := h3
  unfold preB at h1
  rw [List.all_eq_true] at h1
  have hpre : ∀ i, i < n0 → js[i]? = some (.g i) := by
    intro i hi
    have := h1 i (List.mem_range.2 hi)
    split at this
    · rename_i k hk
      rw [hk, Nat.eq_of_beq_eq_true this]
    · cases this
  have hview := fun (j b : Nat) (h : (Lof its' (js.map (cJ κ)))[j]? = some (some b)) => view_own hr hI h2 S.len h
  have hmem : ∀ b, some b ∈ Lof its' (js.map (cJ κ)) → some b ∈ Lof its κ := by
    intro b hb
    obtain ⟨j, hj⟩ := List.getElem?_of_mem hb
    obtain ⟨i, _, _, _, _, h⟩ := hview j b hj
    exact List.mem_of_getElem? h
  have hz : ∀ (k i b : Nat), (js[k]? = some (.z i) ∨ js[k]? = some (.l i)) → (Lof its κ)[i]? = some (some b) → some b ∉ Lof its' (js.map (cJ κ)) := by
    intro k i b hk hi hb
    obtain ⟨j, hj⟩ := List.getElem?_of_mem hb
    obtain ⟨i', t, g1, g2, g3, g4⟩ := hview j b hj
    have e : i = i' := by
      by_cases e : i = i'
      · exact e
      · exact (S.ctx.sep i i' b e hi g4).elim
    subst e
    rw [List.all_eq_true] at hfz
    have := hfz i (frzG_mem hk)
    rw [memN_iff.2 (ownG_mem g1 g2 g3)] at this
    cases this
  refine ⟨by rw [List.length_map]; exact hlen, ?_, ?_, h4, h5, ?_, fun j t c h7 h8 => ?_⟩
  · rw [← S.pre]
    apply List.ext_getElem?
    intro i
    rw [List.getElem?_take, List.getElem?_take]
    by_cases hi : i < n0
    · rw [if_pos hi, if_pos hi, List.getElem?_map, hpre i hi]
      have : i < κ.length := Nat.lt_of_lt_of_le hi S.n0
      simp [cJ, List.getElem?_eq_getElem this]
    · rw [if_neg hi, if_neg hi]
  · rw [List.length_map]
    cases n0 with
    | zero => exact Nat.zero_le _
    | succ m => exact (List.getElem?_eq_some_iff.1 (hpre m (Nat.lt_succ_self m))).1
  · refine S.ctx.of (fun j => match js[j]? with | some (.g i) => i | _ => 0) (fun j b h => ?_) (fun j k b hj hk e => ?_)
    · obtain ⟨i, t, g1, _, _, g4⟩ := hview j b h
      simp only [g1]
      exact g4
    · obtain ⟨i, t, g1, g2, g3, g4⟩ := hview j b hj
      obtain ⟨i', t', g1', g2', g3', g4'⟩ := hview k b hk
      simp only [g1, g1'] at e
      subst e
      exact ownG_inj hnd g1 g2 g3 g1' g2' g3'
  · obtain ⟨j', x, g1, g2, g3⟩ := hget j t h7
    rw [List.getElem?_map, g1] at h8
    simp only [Option.map_some, Option.some.injEq] at h8
    subst h8
    exact view_ok S h2 hmem hz g1 g2 g3
/-- Arrival. -/
theorem A.to {a : Act} (h : A N n0 fx env its a w) (js : List Jx) (hI : (renE js env', renIs js its') = (lkEs env env', srcs its js its')) (hB : vwB n0 its.length js env' its' (lkEs env env') (srcs its js its') = true) : A N n0 fx env' its' a w := by
  obtain ⟨κ, ha, S⟩ := h
  injection hI with h1 h2
  simp only [vwB, Bool.and_eq_true] at hB
  obtain ⟨b1, b2, b3, b4, b5, b6, b7⟩ := hB
  obtain ⟨e, he⟩ := Option.isSome_iff_exists.1 b6
  refine ⟨js.map (cJ κ), ha.sub (renE_sub (by rw [S.len]; exact bndJ_ok b2) (h1.trans he) he), S.view h2 ?_⟩
  simp only [vwB, Bool.and_eq_true]
  exact ⟨b1, b2, b3, b4, b5, rfl, b7⟩

/-! ### Functions -/
def enumS (i : Nat) : List SV → Env'
  | [] => []
  | v :: vs => (i, v) :: enumS (i + 1) vs
theorem denE_enumS {κ : List Conc} : ∀ (vs : List SV) (i : Nat), denE κ (enumS i vs) = enumFrom i (vs.map (SV.den κ))
  | [], i => rfl
  | v :: vs, i => by
    have := denE_enumS (κ := κ) vs (i + 1)
    unfold denE at this ⊢
    simp only [enumS, List.map_cons, enumFrom, this]
/-- What a function does: parameters and memory, results and memory. -/
def Spec (P : Program) (f : FuncId) (as : List SV) (its : List Item) (rs : SV) (its' : List Item) : Prop :=
  ∀ U0 κ w (gl : Globs U0 (Lof its κ) w), St its.length ⟨U0, Lof its κ, w, κ, gl, fun _ _ => False⟩ (enumS 0 as) its κ w → Calls P f (as.map (SV.den κ)).toArray w fun e w' => ∃ κx, e = .returned (rs.den (κ ++ κx)) ∧ St its.length ⟨U0, Lof its κ, w, κ, gl, fun _ _ => False⟩ [(0, rs)] its' (κ ++ κx) w'
def RetE (P : Program) (fn : Func) (n0 : Nat) (fx : Fx) (rs : SV) (its' : List Item) : Act → World → Prop :=
  RetK P fn fun e w' => ∃ κx, e = .returned (rs.den (fx.κ0 ++ κx)) ∧ St n0 fx [(0, rs)] its' (fx.κ0 ++ κx) w'
theorem Spec.enter {f : FuncId} {fn : Func} {c : Code} {as : List SV} {rs : SV} {N m : Nat} (hf : P.funcs[f]? = some fn) (hb : fn.body = some c) (hN : fn.ntmps = N) (hle : Nat.ble as.length N = true) (hm : its.length = m)
    (h : ∀ fx, SC P c (RetE P fn m fx rs its') (fun _ _ _ => False) (RetE P fn m fx rs its') N m fx (enumS 0 as) its) : Spec P f as its rs its' := fun U0 κ w gl S => by
  subst hm
  refine calls_enter (px := fun _ _ => False) hf hb hN (by simpa using hle) (fun _ _ h => h.elim) ?_
  have := h ⟨U0, Lof its κ, w, κ, gl, fun _ _ => False⟩ κ w S
  rw [denE_enumS] at this
  exact this
def resS (tt : TT) (env : Env') (its : List Item) : List ResultVar → Option (List SV)
  | [] => some []
  | .tmp t :: r => match lkE t env, resS tt env its r with
    | some v, some vs => some (v :: vs)
    | _, _ => none
  | .cell p ty :: r => match lkE p env, lkT ty tt, resS tt env its r with
    | some (.c (.p i 0)), some ti, some vs => (match its[i]? with
      | some (.blk _ cs) => (match ti.agg, cs with
        | true, cs => (match Nat.beq cs.length ti.size with
          | true => some (.g cs :: vs)
          | false => none)
        | false, [c] => some (.c c :: vs)
        | false, _ => none)
      | _ => none)
    | _, _, _ => none
theorem resS_ok (htt : TTOk P tt) (S : St n0 fx env its κ w) : ∀ (rs : List ResultVar) {vs : List SV}, resS tt env its rs = some vs → RVs P N (denE κ env) w rs (vs.map (SV.den κ))
  | [], vs, h => by simp only [resS, Option.some.injEq] at h; subst h; trivial
  | .tmp t :: r, vs, h => by
    simp only [resS] at h
    split at h
    · rename_i v vs' hv hr
      injection h with h; subst h
      exact ⟨rv1_tmp (lkE_den hv), resS_ok htt S r hr⟩
    · cases h
  | .cell p ty :: r, vs, h => by
    simp only [resS] at h
    split at h
    · rename_i i ti vs' hp ht hr
      split at h
      · rename_i T cs hi
        obtain ⟨c, hc1, hc2⟩ := S.conc hi
        cases c with
        | b n =>
          have hp' := lkE_den (κ := κ) hp
          simp only [SV.den, Cell.den, hc1] at hp'
          split at h
          · rename_i ha
            split at h
            · rename_i hl
              injection h with h; subst h
              exact ⟨rv1_cell (by rw [← ha]; exact (htt.get ht).agg) (htt.get ht).size hp' hc2 (by simpa using Nat.eq_of_beq_eq_true hl), resS_ok htt S r hr⟩
            · cases h
          · rename_i c ha
            injection h with h; subst h
            exact ⟨rv1_cell1 (by rw [← ha]; exact (htt.get ht).agg) hp' hc2, resS_ok htt S r hr⟩
          · cases h
        | _ => exact hc2.elim
      · cases h
    · cases h
def toTel : List SV → Option (List (Cell ⊕ List Cell))
  | [] => some []
  | .c x :: r => (toTel r).map (.inl x :: ·)
  | .g l :: r => (toTel r).map (.inr l :: ·)
  | _ :: _ => none
def retS : List SV → Option SV
  | [v] => some v
  | vs => (toTel vs).map .u
theorem toTel_ok : ∀ {vs : List SV} {l : List (Cell ⊕ List Cell)}, toTel vs = some l → l.map (tel κ) = vs.map (SV.den κ)
  | [], l, h => by simp only [toTel, Option.some.injEq] at h; subst h; rfl
  | .c x :: r, l, h => by
    simp only [toTel] at h
    cases hr : toTel r with
    | none => simp [hr] at h
    | some q => simp [hr] at h; subst h; simp [toTel_ok hr, tel, SV.den]
  | .g x :: r, l, h => by
    simp only [toTel] at h
    cases hr : toTel r with
    | none => simp [hr] at h
    | some q => simp [hr] at h; subst h; simp [toTel_ok hr, tel, SV.den]
  | .u _ :: _, l, h => by cases h
  | .f _ _ :: _, l, h => by cases h
theorem retS_ok {vs : List SV} {v : SV} (h : retS vs = some v) : v.den κ = retVal (vs.map (SV.den κ)) := by
  unfold retS at h
  split at h
  · injection h with h; subst h; rfl
  · rename_i hne
    cases hl : toTel vs with
    | none => simp [hl] at h
    | some l =>
      simp [hl] at h
      subst h
      have := toTel_ok (κ := κ) hl
      match vs, hne with
      | [], _ => simp [SV.den, retVal, this]
      | [v], hne => exact absurd rfl (hne v)
      | a :: b :: r, _ => simp [SV.den, retVal, this]
theorem resS_lt {n : Nat} (hs : scE n env = true) (hi : scI n its = true) : ∀ (rs : List ResultVar) {vs : List SV}, resS tt env its rs = some vs → ∀ v ∈ vs, v.lt n = true
  | [], vs, h => by simp only [resS, Option.some.injEq] at h; subst h; simp
  | .tmp t :: r, vs, h => by
    simp only [resS] at h
    split at h
    · rename_i v vs' hv hr
      injection h with h; subst h
      intro u hu
      rcases List.mem_cons.1 hu with rfl | hu
      · unfold scE at hs
        rw [List.all_eq_true] at hs
        exact hs _ (lkE_mem hv)
      · exact resS_lt hs hi r hr u hu
    · cases h
  | .cell p ty :: r, vs, h => by
    simp only [resS] at h
    split at h
    · rename_i i ti vs' hp ht hr
      split at h
      · rename_i T cs hc
        have hcs : cs.all (Cell.lt n) = true := by
          unfold scI at hi
          rw [List.all_eq_true] at hi
          exact hi _ (List.mem_of_getElem? hc)
        split at h
        · split at h
          · injection h with h; subst h
            intro u hu
            rcases List.mem_cons.1 hu with rfl | hu
            · exact hcs
            · exact resS_lt hs hi r hr u hu
          · cases h
        · rename_i c _
          injection h with h; subst h
          intro u hu
          rcases List.mem_cons.1 hu with rfl | hu
          · have : Cell.lt n c = true := by simpa using hcs
            exact this
          · exact resS_lt hs hi r hr u hu
        · cases h
      · cases h
    · cases h
/-- The end of a function. -/
theorem A.ret {a : Act} {fn : Func} {rs : SV} (htt : TTOk P tt) (h : A N n0 fx env its a w) (js : List Jx) (hI : ((renS js rs, (renS js rs).isSome), renIs js its') = (((resS tt env its fn.results.toList).bind retS, true), srcs its js its')) (hB : vwB n0 its.length js [(0, rs)] its' (some []) (srcs its js its') = true) : RetE P fn n0 fx rs its' a w := by
  obtain ⟨κ, ha, S⟩ := h
  injection hI with h1 h2
  injection h1 with h1 h3
  have S' := S.view h2 hB
  simp only [vwB, Bool.and_eq_true] at hB
  obtain ⟨b1, b2, b3, b4, b5, b6, b7⟩ := hB
  obtain ⟨sv, hsv⟩ := Option.isSome_iff_exists.1 h3
  rw [hsv] at h1
  cases hrs : resS tt env its fn.results.toList with
  | none => simp [hrs] at h1
  | some vs =>
    simp only [hrs, Option.bind_some] at h1
    have hrun := run_results (P := P) (fn := fn) (rs := fn.results.toList) (by simp) (resS_ok (N := N) htt S _ hrs) ha
    have hden : rs.den (js.map (cJ κ)) = retVal (vs.map (SV.den κ)) := by
      rw [renS_den (by rw [S.len]; exact bndJ_ok b2) hsv]
      exact retS_ok h1.symm
    refine ⟨ha.defers, _, hrun, (js.map (cJ κ)).drop n0, ?_, ?_⟩
    · rw [← S'.pre, List.take_append_drop, hden]
    · rw [← S'.pre, List.take_append_drop]
      exact S'
theorem SC.ret {fn : Func} {rs : SV} (htt : TTOk P tt) (js : List Jx) (hI : ((renS js rs, (renS js rs).isSome), renIs js its') = (((resS tt env its fn.results.toList).bind retS, true), srcs its js its')) (hB : vwB n0 its.length js [(0, rs)] its' (some []) (srcs its js its') = true) : SC P .ret Kn Ke (RetE P fn n0 fx rs its') N n0 fx env its := fun κ _ S =>
  WC.ret fun _ ha => A.ret htt ⟨κ, ha, S⟩ js hI hB
end
end V
end Go.Proofs.YtladkmnfmpojiaaGreatDoor
namespace Go.Proofs.YtladkmnfmpojiaaGreatDoor
namespace V
/-- The callee's items in the caller's numbers. -/
def shC (n m : Nat) (js : List Jx) : Cell → Option Cell
  | .v x => some (.v x)
  | .p j o => match Nat.blt j m, js[j]? with
    | true, some (.g i) => some (.p i o)
    | true, _ => none
    | false, _ => some (.p (n + (j - m)) o)
  | .s j => match Nat.blt j m, js[j]? with
    | true, some (.g i) => some (.s i)
    | true, some (.l i) => some (.s i)
    | true, _ => none
    | false, _ => some (.s (n + (j - m)))
  | .t j => match Nat.blt j m, js[j]? with
    | true, some (.g i) => some (.t i)
    | true, _ => none
    | false, _ => some (.t (n + (j - m)))
  | .m j => match Nat.blt j m, js[j]? with
    | true, some (.g i) => some (.m i)
    | true, some (.l i) => some (.m i)
    | true, _ => none
    | false, _ => some (.m (n + (j - m)))
  | .w fn j o => match Nat.blt j m, js[j]? with
    | true, some (.g i) => some (.w fn i o)
    | true, _ => none
    | false, _ => some (.w fn (n + (j - m)) o)
def shL (n m : Nat) (js : List Jx) : List Cell → Option (List Cell)
  | [] => some []
  | c :: r => match shC n m js c, shL n m js r with
    | some c, some r => some (c :: r)
    | _, _ => none
def shU (n m : Nat) (js : List Jx) : List (Cell ⊕ List Cell) → Option (List (Cell ⊕ List Cell))
  | [] => some []
  | .inl c :: r => match shC n m js c, shU n m js r with
    | some c, some r => some (.inl c :: r)
    | _, _ => none
  | .inr c :: r => match shL n m js c, shU n m js r with
    | some c, some r => some (.inr c :: r)
    | _, _ => none
def shS (n m : Nat) (js : List Jx) : SV → Option SV
  | .c x => (shC n m js x).map .c
  | .g l => (shL n m js l).map .g
  | .u l => (shU n m js l).map .u
  | .f fn l => (shL n m js l).map (.f fn)
def shM (n m : Nat) (js : List Jx) : List (Int × Cell) → Option (List (Int × Cell))
  | [] => some []
  | (x, c) :: r => match shC n m js c, shM n m js r with
    | some c, some r => some ((x, c) :: r)
    | _, _ => none
def shI (n m : Nat) (js : List Jx) : Item → Option Item
  | .blk T cs => (shL n m js cs).map (.blk T)
  | .lm k l => (shM n m js l).map (.lm k)
  | .elt _ _ _ => none
  | it => some it
def shIs (n m : Nat) (js : List Jx) : List Item → Option (List Item)
  | [] => some []
  | c :: r => match shI n m js c, shIs n m js r with
    | some c, some r => some (c :: r)
    | _, _ => none
/-- An item that came in to be turned. -/
def shO (n m : Nat) (js : List Jx) : Item → Option Item
  | @Item.rd _ _ _ _ _ => some .gone
  | @Item.mp _ _ _ _ _ _ => some .gone
  | it => shI n m js it
def turnG (n m : Nat) (js0 : List Jx) : List Jx → List Item → List Item → List Item → Option (List Item)
  | [], [], _, its => some its
  | .g i :: js, t :: ts, u :: us, its => match t.owned with
    | true => (match shO n m js0 u with
      | some u' => turnG n m js0 js ts us (its.set i u')
      | none => none)
    | false => turnG n m js0 js ts us its
  | _ :: js, _ :: ts, _ :: us, its => turnG n m js0 js ts us its
  | _, _, _, _ => none
def backI (js : List Jx) (itsC itsC' its : List Item) : Option (List Item) :=
  match turnG its.length itsC.length js js itsC itsC' its, shIs its.length itsC.length js (itsC'.drop itsC.length) with
  | some a, some b => some (a ++ b)
  | _, _ => none
def Fl {α : Type} (R : RT α) : Prop := ∀ (U U' : Nat → Prop) (w : World) (cs : List Value) (x : α), R U w cs x → R U' w cs x
def FlO : Item → Prop
  | @Item.own _ _ _ R _ _ => Fl R
  | _ => True
def NoRd : Item → Prop
  | @Item.rd _ _ _ _ _ => False
  | @Item.mp _ _ _ _ _ _ => False
  | .elt .. => False
  | _ => True
def FlatA : Nat → List Item → Prop
  | _, [] => True
  | m + 1, u :: us => FlO u ∧ FlatA m us
  | 0, u :: us => (FlO u ∧ NoRd u) ∧ FlatA 0 us
theorem Fl.int {k : IntKind} : Fl (RInt k) := fun _ _ _ _ _ h => h
theorem Fl.bool : Fl RBool := fun _ _ _ _ _ h => h
def hasL : List Jx → Bool
  | [] => false
  | .l _ :: _ => true
  | _ :: js => hasL js
theorem hasL_no : ∀ {js : List Jx}, hasL js = false → ∀ (k i : Nat), js[k]? ≠ some (.l i)
  | [], _, k, i => by simp
  | j :: js, h, 0, i => by
    intro e
    simp at e
    subst e
    cases h
  | j :: js, h, k + 1, i => by
    have : hasL js = false := by cases j <;> first | exact h | cases h
    simpa using hasL_no this k i
section
variable {P : Program} {N n0 : Nat} {fx : Fx} {its its' : List Item} {κ : List Conc} {w : World} {env env' : Env'} {js : List Jx} {tt : TT}
theorem shC_den {κx : List Conc} (hl : κ.length = its.length) (hb : bndJ its.length js = true) {c c' : Cell} (h : shC its.length js.length js c = some c') : c.den (js.map (cJ κ) ++ κx) = c'.den (κ ++ κx) := by
  have old : ∀ (j i : Nat), (js[j]? = some (.g i) ∨ js[j]? = some (.l i)) → (js.map (cJ κ) ++ κx)[j]? = (κ ++ κx)[i]? := by
    intro j i hj
    have hlt : i < κ.length := by rw [hl]; exact bndJ_ok hb j i (hj.elim .inl fun h => .inr (.inl h))
    have hjl : j < js.length := by rcases hj with h | h <;> exact (List.getElem?_eq_some_iff.1 h).1
    rw [List.getElem?_append_left (by rw [List.length_map]; exact hjl), List.getElem?_append_left hlt, List.getElem?_map]
    rcases hj with hj | hj <;> simp [hj, cJ, List.getElem?_eq_getElem hlt]
  have new : ∀ j, Nat.blt j js.length = false → (js.map (cJ κ) ++ κx)[j]? = (κ ++ κx)[its.length + (j - js.length)]? := by
    intro j hj
    have hj' : js.length ≤ j := by
      rcases Nat.lt_or_ge j js.length with h | h
      · have h2 : Nat.blt j js.length = true := by rw [Nat.blt_eq]; exact h
        rw [h2] at hj; cases hj
      · exact h
    rw [List.getElem?_append_right (by rw [List.length_map]; exact hj'), List.getElem?_append_right (by omega), List.length_map, hl]
    congr 1
    omega
  cases c with
  | v x => simp only [shC, Option.some.injEq] at h; subst h; rfl
  | p j o =>
    simp only [shC] at h
    split at h
    · rename_i i hb hj
      injection h with h; subst h
      simp only [Cell.den, old j i (.inl hj)]
    · cases h
    · rename_i hb
      injection h with h; subst h
      simp only [Cell.den, new j hb]
  | w fn j o =>
    simp only [shC] at h
    split at h
    · rename_i i hb hj
      injection h with h; subst h
      simp only [Cell.den, old j i (.inl hj)]
    · cases h
    · rename_i hb
      injection h with h; subst h
      simp only [Cell.den, new j hb]
  | s j =>
    simp only [shC] at h
    split at h
    · rename_i i hb hj
      injection h with h; subst h
      simp only [Cell.den, old j i (.inl hj)]
    · rename_i i hb hj
      injection h with h; subst h
      simp only [Cell.den, old j i (.inr hj)]
    · cases h
    · rename_i hb
      injection h with h; subst h
      simp only [Cell.den, new j hb]
  | t j =>
    simp only [shC] at h
    split at h
    · rename_i i hb hj
      injection h with h; subst h
      simp only [Cell.den, old j i (.inl hj)]
    · cases h
    · rename_i hb
      injection h with h; subst h
      simp only [Cell.den, new j hb]
  | m j =>
    simp only [shC] at h
    split at h
    · rename_i i hb hj
      injection h with h; subst h
      simp only [Cell.den, old j i (.inl hj)]
    · rename_i i hb hj
      injection h with h; subst h
      simp only [Cell.den, old j i (.inr hj)]
    · cases h
    · rename_i hb
      injection h with h; subst h
      simp only [Cell.den, new j hb]
theorem shL_den {κx : List Conc} (hl : κ.length = its.length) (hb : bndJ its.length js = true) : ∀ {l l' : List Cell}, shL its.length js.length js l = some l' → l.map (Cell.den (js.map (cJ κ) ++ κx)) = l'.map (Cell.den (κ ++ κx))
  | [], l', h => by simp only [shL, Option.some.injEq] at h; subst h; rfl
  | c :: r, l', h => by
    simp only [shL] at h
    split at h
    · rename_i c' r' hc hr
      injection h with h; subst h
      simp only [List.map_cons, shC_den hl hb hc, shL_den hl hb hr]
    · cases h
theorem shU_den {κx : List Conc} (hl : κ.length = its.length) (hb : bndJ its.length js = true) : ∀ {l l' : List (Cell ⊕ List Cell)}, shU its.length js.length js l = some l' → l.map (tel (js.map (cJ κ) ++ κx)) = l'.map (tel (κ ++ κx))
  | [], l', h => by simp only [shU, Option.some.injEq] at h; subst h; rfl
  | .inl c :: r, l', h => by
    simp only [shU] at h
    split at h
    · rename_i c' r' hc hr
      injection h with h; subst h
      simp only [List.map_cons, tel, shC_den hl hb hc, shU_den hl hb hr]
    · cases h
  | .inr c :: r, l', h => by
    simp only [shU] at h
    split at h
    · rename_i c' r' hc hr
      injection h with h; subst h
      simp only [List.map_cons, tel, shL_den hl hb hc, shU_den hl hb hr]
    · cases h
theorem shS_den {κx : List Conc} (hl : κ.length = its.length) (hb : bndJ its.length js = true) {x x' : SV} (h : shS its.length js.length js x = some x') : x.den (js.map (cJ κ) ++ κx) = x'.den (κ ++ κx) := by
  cases x with
  | c y =>
    simp only [shS] at h
    cases hy : shC its.length js.length js y with
    | none => simp [hy] at h
    | some c => simp [hy] at h; subst h; exact shC_den hl hb hy
  | g l =>
    simp only [shS] at h
    cases hy : shL its.length js.length js l with
    | none => simp [hy] at h
    | some c => simp [hy] at h; subst h; simp only [SV.den, shL_den hl hb hy]
  | u l =>
    simp only [shS] at h
    cases hy : shU its.length js.length js l with
    | none => simp [hy] at h
    | some c => simp [hy] at h; subst h; simp only [SV.den, shU_den hl hb hy]
  | f fn l =>
    simp only [shS] at h
    cases hy : shL its.length js.length js l with
    | none => simp [hy] at h
    | some c => simp [hy] at h; subst h; simp only [SV.den, shL_den hl hb hy]
theorem turnG_get {n m : Nat} {js0 : List Jx} : ∀ {js : List Jx} {ts us its r : List Item}, turnG n m js0 js ts us its = some r → nodupN (ownG js ts) = true →
    r.length = its.length ∧ (∀ i, i ∉ ownG js ts → r[i]? = its[i]?) ∧ ∀ (k i : Nat) (t u : Item), js[k]? = some (.g i) → ts[k]? = some t → t.owned = true → us[k]? = some u → i < its.length → ∃ u', shO n m js0 u = some u' ∧ r[i]? = some u'
  | [], [], us, its, r, h, _ => by
    simp only [turnG, Option.some.injEq] at h
    subst h
    exact ⟨rfl, fun i _ => rfl, fun k i t u h => by simp at h⟩
  | j :: js, t :: ts, u :: us, its, r, h, hn => by
    by_cases ho : ∃ i, j = .g i ∧ t.owned = true
    · obtain ⟨i, rfl, ho⟩ := ho
      simp only [turnG, ho] at h
      split at h
      · rename_i u' hu
        simp only [ownG, ho, nodupN, Bool.and_eq_true, Bool.not_eq_true'] at hn
        obtain ⟨h1, h2, h3⟩ := turnG_get h hn.2
        have hni : i ∉ ownG js ts := fun e => by rw [memN_iff.2 e] at hn; cases hn.1
        refine ⟨by simpa using h1, fun q hq => ?_, fun k q t2 u2 hk ht hto hu2 hql => ?_⟩
        · simp only [ownG, ho, List.mem_cons, not_or] at hq
          rw [h2 q hq.2, List.getElem?_set_ne (fun e => hq.1 e.symm)]
        · cases k with
          | zero =>
            simp at hk ht hu2
            subst hk; subst ht; subst hu2
            exact ⟨u', hu, by rw [h2 i hni, List.getElem?_set_self hql]⟩
          | succ k =>
            simp only [List.getElem?_cons_succ] at hk ht hu2
            exact h3 k q t2 u2 hk ht hto hu2 (by simpa using hql)
      · cases h
    · have hown : ownG (j :: js) (t :: ts) = ownG js ts := by
        cases j with
        | g i =>
          have : t.owned = false := by
            cases hh : t.owned with
            | false => rfl
            | true => exact absurd ⟨i, rfl, hh⟩ ho
          simp only [ownG, this]
        | _ => rfl
      have hturn : turnG n m js0 js ts us its = some r := by
        cases j with
        | g i =>
          have : t.owned = false := by
            cases hh : t.owned with
            | false => rfl
            | true => exact absurd ⟨i, rfl, hh⟩ ho
          simpa only [turnG, this] using h
        | _ => exact h
      rw [hown] at hn ⊢
      obtain ⟨h1, h2, h3⟩ := turnG_get hturn hn
      refine ⟨h1, h2, fun k q t2 u2 hk ht hto hu2 hql => ?_⟩
      cases k with
      | zero =>
        simp at hk ht
        subst hk; subst ht
        exact absurd ⟨q, rfl, hto⟩ ho
      | succ k =>
        simp only [List.getElem?_cons_succ] at hk ht hu2
        exact h3 k q t2 u2 hk ht hto hu2 hql
  | [], _ :: _, us, its, r, h, _ => by cases h
  | j :: js, [], us, its, r, h, _ => by cases j <;> cases h
  | j :: js, t :: ts, [], its, r, h, _ => by cases j <;> cases h
theorem shIs_get {n m : Nat} : ∀ {l r : List Item}, shIs n m js l = some r → r.length = l.length ∧ ∀ (k : Nat) (u : Item), r[k]? = some u → ∃ u0, l[k]? = some u0 ∧ shI n m js u0 = some u
  | [], r, h => by
    simp only [shIs, Option.some.injEq] at h
    subst h
    exact ⟨rfl, fun k u h => by simp at h⟩
  | c :: l, r, h => by
    simp only [shIs] at h
    split at h
    · rename_i c' r' hc hr
      injection h with h; subst h
      obtain ⟨h1, h2⟩ := shIs_get hr
      refine ⟨by simp [h1], fun k u hk => ?_⟩
      cases k with
      | zero => simp at hk; subst hk; exact ⟨c, rfl, hc⟩
      | succ k =>
        simp only [List.getElem?_cons_succ] at hk ⊢
        exact h2 k u hk
    · cases h
theorem FlatA_get : ∀ {m : Nat} {l : List Item}, FlatA m l → ∀ (k : Nat) (u : Item), l[k]? = some u → FlO u ∧ (m ≤ k → NoRd u)
  | _, [], _, k, u, hk => by simp at hk
  | m + 1, x :: l, h, 0, u, hk => by
    simp at hk; subst hk
    exact ⟨h.1, fun h => by omega⟩
  | m + 1, x :: l, h, k + 1, u, hk => by
    simp only [List.getElem?_cons_succ] at hk
    have := FlatA_get h.2 k u hk
    exact ⟨this.1, fun h => this.2 (by omega)⟩
  | 0, x :: l, h, 0, u, hk => by
    simp at hk; subst hk
    exact ⟨h.1.1, fun _ => h.1.2⟩
  | 0, x :: l, h, k + 1, u, hk => by
    simp only [List.getElem?_cons_succ] at hk
    have := FlatA_get h.2 k u hk
    exact ⟨this.1, fun h => this.2 (by omega)⟩
theorem Own.fl {α : Type} {sz : Nat} {E : TypeId} {R : RT α} [GRep R] (hf : Fl R) {U U' : Nat → Prop} {A : Option Addr} {c : Nat} {d : List α} (h : Own sz E R U w A c d) : Own sz E R U' w A c d := by
  obtain ⟨xs, hown, he⟩ := h
  have els : ∀ (l : List α) (es : List Value), Els sz R U w es l → Els sz R U' w es l := by
    intro l
    induction l with
    | nil => intro es h; exact h
    | cons x xs ih =>
      intro es h
      obtain ⟨e1, e2, h1, h2, h3, h4⟩ := h
      exact ⟨e1, e2, h1, h2, hf _ _ _ _ _ h3, ih e2 h4⟩
  exact ⟨xs, hown, els _ _ he⟩
/-- What the callee hands over, in the caller's terms. -/
theorem shM_den {κx : List Conc} (hl : κ.length = its.length) (hb : bndJ its.length js = true) : ∀ {l l' : List (Int × Cell)}, shM its.length js.length js l = some l' → (l.map fun p => (p.1, p.2.den (js.map (cJ κ) ++ κx))) = l'.map fun p => (p.1, p.2.den (κ ++ κx))
  | [], l', h => by simp only [shM, Option.some.injEq] at h; subst h; rfl
  | (x, c) :: r, l', h => by
    simp only [shM] at h
    split at h
    · rename_i c' r' hc hr
      injection h with h; subst h
      simp only [List.map_cons, shC_den hl hb hc, shM_den hl hb hr]
    · cases h
theorem ents_rv {k : IntKind} {U U' : Nat → Prop} {w w' : World} : ∀ (l : List (Int × Value)) (es : List MapEntry), Ents k RV U w es l → Ents k RV U' w' es l
  | [], _, h => h
  | _ :: xs, _, h => by
    obtain ⟨e, es', rfl, hk, hr, ht⟩ := h
    exact ⟨e, es', rfl, hk, hr, ents_rv xs es' ht⟩
theorem sh_ok {κx : List Conc} (hl : κ.length = its.length) (hb : bndJ its.length js = true) {u u' : Item} {c : Conc} {U U' : Nat → Prop} {w' : World} (hs : shI its.length js.length js u = some u') (h : OK (js.map (cJ κ) ++ κx) U w' u c) (hU : (∀ b, U' b → U b) ∨ (FlO u ∧ NoRd u)) : OK (κ ++ κx) U' w' u' c ∧ own1 u' c = own1 u c ∧ u'.ow = false := by
  cases u with
  | blk T cs =>
    cases hr : shL its.length js.length js cs with
    | none => simp [shI, hr] at hs
    | some cs' =>
      simp only [shI, hr, Option.map_some, Option.some.injEq] at hs
      subst hs
      cases c with
      | b n =>
        refine ⟨?_, rfl, rfl⟩
        simp only [OK] at h ⊢
        rw [shL_den hl hb hr] at h
        exact h
      | _ => exact h.elim
  | lm k l =>
    cases hr : shM its.length js.length js l with
    | none => simp [shI, hr] at hs
    | some l' =>
      simp only [shI, hr, Option.map_some, Option.some.injEq] at hs
      subst hs
      cases c with
      | m b =>
        refine ⟨?_, rfl, rfl⟩
        simp only [OK] at h ⊢
        rw [shM_den hl hb hr] at h
        obtain ⟨n, rfl, es, clock, h1, h2⟩ := h
        exact ⟨n, rfl, es, clock, h1, ents_rv _ _ h2⟩
      | _ => exact h.elim
  | elt s ow cs => cases hs
  | own sz E R l =>
    simp only [shI, Option.some.injEq] at hs
    subst hs
    cases c with
    | r A n c =>
      refine ⟨⟨h.1, ?_⟩, rfl, rfl⟩
      rcases hU with hU | hU
      · exact h.2.mu hU
      · exact h.2.fl hU.1
    | _ => exact h.elim
  | rd sz R l =>
    simp only [shI, Option.some.injEq] at hs
    subst hs
    cases c with
    | r A n c =>
      refine ⟨⟨h.1, ?_⟩, rfl, rfl⟩
      rcases hU with hU | hU
      · exact h.2.mu hU
      · exact hU.2.elim
    | _ => exact h.elim
  | str s =>
    simp only [shI, Option.some.injEq] at hs
    subst hs
    cases c with
    | s x => exact ⟨h, rfl, rfl⟩
    | _ => exact h.elim
  | mp k R ow l =>
    simp only [shI, Option.some.injEq] at hs
    subst hs
    rcases hU with hU | hU
    · cases c with
      | m b =>
        refine ⟨?_, rfl, rfl⟩
        cases ow with
        | true =>
          simp only [OK] at h ⊢
          obtain ⟨n, rfl, hm⟩ := h
          exact ⟨n, rfl, hm.step rfl (fun _ _ _ => rfl) (fun b _ => hU b)⟩
        | false =>
          simp only [OK] at h ⊢
          rcases h with h | ⟨n, rfl, hn, hm⟩
          · exact .inl h
          · exact .inr ⟨n, rfl, fun q => hn (hU n q), hm.step rfl (fun _ _ _ => rfl) (fun b _ => hU b)⟩
      | _ => cases ow <;> exact h.elim
    · exact hU.2.elim
  | adr =>
    simp only [shI, Option.some.injEq] at hs
    subst hs
    cases c with
    | b n => exact ⟨trivial, rfl, rfl⟩
    | _ => exact h.elim
  | gone =>
    simp only [shI, Option.some.injEq] at hs
    subst hs
    exact ⟨trivial, by cases c <;> rfl, rfl⟩
end
end V
end Go.Proofs.YtladkmnfmpojiaaGreatDoor
namespace Go.Proofs.YtladkmnfmpojiaaGreatDoor
namespace V
def mapE (env : Env') : List Operand → Option (List SV)
  | [] => some []
  | x :: r => match evS env x, mapE env r with
    | some v, some vs => some (v :: vs)
    | _, _ => none
def calE (env : Env') : Op → Option (FuncId × List SV)
  | .call ⟨.value (.func f), as, _⟩ => match mapE env as.toList with
    | some vs => some (f, vs)
    | none => none
  | .call ⟨.value (.tmp s), as, _⟩ => match lkE s env, mapE env as.toList with
    | some (.f f caps), some vs => some (f, vs ++ caps.map .c)
    | some (.c (.w f i o)), some vs => some (f, vp i o :: vs)
    | some (.c (.v (.func (.func f) ⟨[]⟩ ⟨[]⟩))), some vs => some (f, vs)
    | _, _ => none
  | _ => none
def renSs (js : List Jx) : List SV → Option (List SV)
  | [] => some []
  | x :: r => match renS js x, renSs js r with
    | some v, some vs => some (v :: vs)
    | _, _ => none
def noZ : List Jx → Bool
  | [] => true
  | .z _ :: _ => false
  | _ :: js => noZ js
def cB (its : List Item) (js : List Jx) (asC : List SV) (itsC : List Item) : Bool :=
  bndJ its.length js && (okG js itsC && (scE itsC.length (enumS 0 asC) && (scI itsC.length itsC && ((srcs its js itsC).isSome && (!its.any Item.ow && noZ js)))))
def cB2 (its2 : Option (List Item)) (v : SV) : Bool := match its2 with
  | some l => v.lt l.length && scI l.length l
  | none => false
section
variable {P : Program} {N n0 : Nat} {fx : Fx} {its its' : List Item} {κ : List Conc} {w : World} {env env' : Env'} {js : List Jx} {tt : TT} {ops : Array Oper} {rest : List Oper} {Kn : Act → World → Prop} {Ke : Nat → Act → World → Prop} {Kr : Act → World → Prop}
theorem SL.norm {itsN : List Item} (h : its = itsN) (hk : SL P ops rest Kn N n0 fx env itsN) : SL P ops rest Kn N n0 fx env its := h ▸ hk
theorem SC.norm {itsN : List Item} {c : Code} (h : its = itsN) (hk : SC P c Kn Ke Kr N n0 fx env itsN) : SC P c Kn Ke Kr N n0 fx env its := h ▸ hk
theorem mapEE_ok : ∀ (as : List Operand) {vs : List SV}, mapE env as = some vs → as.mapM (ev (denE κ env)) = some (vs.map (SV.den κ))
  | [], vs, h => by simp only [mapE, Option.some.injEq] at h; subst h; rfl
  | x :: r, vs, h => by
    simp only [mapE] at h
    split at h
    · rename_i v vs' hv hr
      injection h with h; subst h
      simp [List.mapM_cons, evS_den hv, mapEE_ok r hr]
    · cases h
theorem renSs_den (hb : ∀ (j i : Nat), js[j]? = some (.g i) ∨ js[j]? = some (.l i) ∨ js[j]? = some (.z i) → i < κ.length) : ∀ {l l' : List SV}, renSs js l = some l' → l.map (SV.den (js.map (cJ κ))) = l'.map (SV.den κ)
  | [], l', h => by simp only [renSs, Option.some.injEq] at h; subst h; rfl
  | c :: r, l', h => by
    simp only [renSs] at h
    split at h
    · rename_i c' r' hc hr
      injection h with h; subst h
      simp only [List.map_cons, renS_den hb hc, renSs_den hb hr]
    · cases h
theorem noZ_ok : ∀ {js : List Jx}, noZ js = true → ∀ (k i : Nat), js[k]? ≠ some (.z i)
  | [], _, k, i => by simp
  | j :: js, h, 0, i => by
    intro e
    simp at e
    subst e
    cases h
  | j :: js, h, k + 1, i => by
    have : noZ js = true := by cases j <;> first | exact h | cases h
    simpa using noZ_ok this k i
theorem call_run {o : Oper} {f : FuncId} {as : List SV} (hc : ∀ args w, (callFunc f args).run P w = .ok (.enter f args) w) (h : calE env o.op = some (f, as)) : RunC P N (denE κ env) o w f (as.map (SV.den κ)).toArray := by
  obtain ⟨d, op, t, ps, af, g⟩ := o
  unfold calE at h
  simp only at h
  split at h
  · rename_i f' args ts
    split at h
    · rename_i vs hv
      simp only [Option.some.injEq, Prod.mk.injEq] at h
      obtain ⟨rfl, rfl⟩ := h
      obtain ⟨args⟩ := args
      exact rc_func hc (mapEE_ok args hv)
    · cases h
  · rename_i s args ts
    split at h
    · rename_i f' caps vs hs hv
      simp only [Option.some.injEq, Prod.mk.injEq] at h
      obtain ⟨rfl, rfl⟩ := h
      obtain ⟨args⟩ := args
      have hl := lkE_den (κ := κ) hs
      simp only [SV.den] at hl
      have := rc_val (d := d) (t := t) (ps := ps) (af := af) (g := g) (ats := ts) (N := N) (w := w) hc hl (mapEE_ok args hv)
      have e : (vs ++ caps.map SV.c).map (SV.den κ) = vs.map (SV.den κ) ++ caps.map (Cell.den κ) := by
        rw [List.map_append, List.map_map]
        rfl
      rw [e]
      exact this
    · rename_i f' i o vs hs hv
      simp only [Option.some.injEq, Prod.mk.injEq] at h
      obtain ⟨rfl, rfl⟩ := h
      obtain ⟨args⟩ := args
      have hl := lkE_den (κ := κ) hs
      have hl2 : lk s (denE κ env) = some (.func (.func f') #[(vp i o).den κ] #[]) := hl
      exact rc_val1 (d := d) (t := t) (ps := ps) (af := af) (g := g) (ats := ts) (N := N) (w := w) hc hl2 (mapEE_ok args hv)
    · rename_i f' vs hs hv
      simp only [Option.some.injEq, Prod.mk.injEq] at h
      obtain ⟨rfl, rfl⟩ := h
      obtain ⟨args⟩ := args
      have hl := lkE_den (κ := κ) hs
      have hl2 : lk s (denE κ env) = some (.func (.func f') #[] ([] : List Value).toArray) := hl
      have := rc_val (d := d) (t := t) (ps := ps) (af := af) (g := g) (ats := ts) (N := N) (w := w) hc hl2 (mapEE_ok args hv)
      rw [List.append_nil] at this
      exact this
    · cases h
  · cases h
theorem Ctx.sub {U0 : Nat → Prop} {X0 : List (Option Nat)} {w0 w : World} {L L' Lc : List (Option Nat)} (C : Ctx U0 X0 w0 L w) (h1 : ∀ b, some b ∈ L' → some b ∈ L) (h2 : ∀ b, some b ∈ Lc → some b ∈ L ∧ some b ∉ L') (h3 : ∀ (i j b : Nat), i ≠ j → Lc[i]? = some (some b) → Lc[j]? = some (some b) → False) : Ctx (Mu U0 L') Lc w Lc w :=
  ⟨Step.refl, fun b hb => C.lt b (Mu.weaken h1 b hb), fun b hb => ⟨(C.live b (h2 b hb).1).1, fun hM => hM.elim (C.live b (h2 b hb).1).2.1 (h2 b hb).2, .inr hb⟩, h3⟩
theorem Ctx.back {U0 : Nat → Prop} {X0 : List (Option Nat)} {w0 w w' : World} {L L' Lc R Lf : List (Option Nat)} (C : Ctx U0 X0 w0 L w) (D : Ctx (Mu U0 L') Lc w R w') (h2 : ∀ b, some b ∈ Lc → some b ∈ L) (hf : ∀ b, some b ∈ Lf → some b ∈ R ∨ some b ∈ L) (hs : ∀ (i j b : Nat), i ≠ j → Lf[i]? = some (some b) → Lf[j]? = some (some b) → False) : Ctx U0 X0 w0 Lf w' ∧ TR U0 L w Lf w' Lc := by
  have hR : ∀ b, some b ∈ R → b < w'.heap.size ∧ ¬ U0 b ∧ (w.heap.size ≤ b ∨ some b ∈ L) := fun b hb => by
    obtain ⟨g1, g2, g3⟩ := D.live b hb
    exact ⟨g1, fun h => g2 (.inl h), g3.imp id (h2 b)⟩
  refine ⟨⟨⟨D.step.os.trans C.step.os, D.step.tape.trans C.step.tape, D.step.output.trans C.step.output, Nat.le_trans C.step.size D.step.size, fun b hb hX => ?_⟩, C.u0, fun b hb => ?_, hs⟩, ⟨D.step.size, D.step.block, h2, fun b hb hM => ?_⟩⟩
  · have hlt : b < w.heap.size := Nat.lt_of_lt_of_le hb C.step.size
    rw [D.step.block b hlt (fun hL => ?_)]
    · exact C.step.block b hb hX
    · rcases (C.live b (h2 b hL)).2.2 with h | h
      · omega
      · exact hX h
  · rcases hf b hb with h | h
    · obtain ⟨g1, g2, g3⟩ := hR b h
      refine ⟨g1, g2, ?_⟩
      rcases g3 with g3 | g3
      · exact .inl (Nat.le_trans C.step.size g3)
      · exact (C.live b g3).2.2
    · obtain ⟨g1, g2, g3⟩ := C.live b h
      exact ⟨Nat.lt_of_lt_of_le g1 D.step.size, g2, g3⟩
  · rcases hM with h | h
    · exact .inl h
    · rcases hf b h with h | h
      · rcases (hR b h).2.2 with h | h
        · omega
        · exact .inr h
      · exact .inr h
theorem e_call {f : FuncId} {o : Oper} {asC as : List SV} {itsC itsC' : List Item} {rsC : SV} (hc : ∀ args w, (callFunc f args).run P w = .ok (.enter f args) w) (spec : Spec P f asC itsC rsC itsC') (js : List Jx) (v : SV)
    (hA : ((calE env o.op, renIs js itsC), shS its.length itsC.length js rsC) = (((renSs js asC).map fun as => (f, as), srcs its js itsC), some v)) (hS : renSs js asC = some as) (hB : cB its js asC itsC = true) (hB2 : cB2 (backI js itsC itsC' its) v = true) (hF : hasL js = false ∨ FlatA itsC.length itsC') :
    Eff P N n0 fx env its o (some v) ((backI js itsC itsC' its).getD []) := fun κ w S a ha => by
  injection hA with hA hv
  injection hA with hcal hI
  rw [hS] at hcal
  simp only [Option.map_some] at hcal
  simp only [cB, Bool.and_eq_true, Bool.not_eq_true'] at hB
  obtain ⟨b1, b2, b3, b4, b5, how, b7⟩ := hB
  obtain ⟨r, hr⟩ := Option.isSome_iff_exists.1 b5
  rw [hr] at hI
  obtain ⟨hlen, hget⟩ := srcs_get hr hI
  simp only [okG, Bool.and_eq_true] at b2
  obtain ⟨hnd, hfz⟩ := b2
  cases hback : backI js itsC itsC' its with
  | none => rw [hback] at hB2; cases hB2
  | some its2 =>
  rw [hback] at hB2
  simp only [cB2, Bool.and_eq_true] at hB2
  obtain ⟨hvl, hsci2⟩ := hB2
  simp only [Option.getD_some]
  unfold backI at hback
  split at hback
  case h_2 => cases hback
  rename_i aa bb hturn hshs
  injection hback with hback
  subst hback
  rw [← hlen] at hturn hshs hv
  obtain ⟨t1, t2, t3⟩ := turnG_get hturn hnd
  obtain ⟨s1, s2⟩ := shIs_get hshs
  -- the blocks that are turned, lent, kept
  have hbk : ∀ (j i : Nat), js[j]? = some (.g i) ∨ js[j]? = some (.l i) ∨ js[j]? = some (.z i) → i < its.length := bndJ_ok b1
  let Lc := Lof itsC (js.map (cJ κ))
  let L' : List (Option Nat) := (List.range its.length).map fun i => if i ∈ ownG js itsC ∨ i ∈ frzG js then none else ((Lof its κ)[i]?).join
  have hview : ∀ (j b : Nat), Lc[j]? = some (some b) → ∃ i t, js[j]? = some (.g i) ∧ itsC[j]? = some t ∧ t.owned = true ∧ (Lof its κ)[i]? = some (some b) := fun j b h => view_own hr hI b1 S.len h
  have hL'mem : ∀ b, some b ∈ L' → ∃ i, i ∉ ownG js itsC ∧ i ∉ frzG js ∧ (Lof its κ)[i]? = some (some b) := by
    intro b hb
    obtain ⟨i, hi, he⟩ := List.mem_map.1 hb
    split at he
    · cases he
    · rename_i hn
      exact ⟨i, fun h => hn (.inl h), fun h => hn (.inr h), join_some he⟩
  have hL'sub : ∀ b, some b ∈ L' → some b ∈ Lof its κ := fun b hb => by
    obtain ⟨i, _, _, h⟩ := hL'mem b hb
    exact List.mem_of_getElem? h
  have hLc : ∀ b, some b ∈ Lc → some b ∈ Lof its κ ∧ some b ∉ L' := by
    intro b hb
    obtain ⟨j, hj⟩ := List.getElem?_of_mem hb
    obtain ⟨i, t, g1, g2, g3, g4⟩ := hview j b hj
    refine ⟨List.mem_of_getElem? g4, fun h => ?_⟩
    obtain ⟨i', h1, _, h3⟩ := hL'mem b h
    by_cases e : i = i'
    · subst e; exact h1 (ownG_mem g1 g2 g3)
    · exact S.ctx.sep i i' b e g4 h3
  have hLcsep : ∀ (i j b : Nat), i ≠ j → Lc[i]? = some (some b) → Lc[j]? = some (some b) → False := by
    intro j k b hjk hj hk
    obtain ⟨i, t, g1, g2, g3, g4⟩ := hview j b hj
    obtain ⟨i', t', g1', g2', g3', g4'⟩ := hview k b hk
    by_cases e : i = i'
    · subst e
      exact hjk (ownG_inj hnd g1 g2 g3 g1' g2' g3')
    · exact S.ctx.sep i i' b e g4 g4'
  have C0 := S.ctx.sub hL'sub hLc hLcsep
  -- the callee's beginning
  have hsub : ∀ b, some b ∈ Lc ++ L' → some b ∈ Lof its κ := fun b hb => (List.mem_append.1 hb).elim (fun h => (hLc b h).1) (hL'sub b)
  have hzz : ∀ (k i b : Nat), (js[k]? = some (.z i) ∨ js[k]? = some (.l i)) → (Lof its κ)[i]? = some (some b) → some b ∉ Lc ++ L' := by
    intro k i b hk hi hb
    rcases List.mem_append.1 hb with h | h
    · obtain ⟨j, hj⟩ := List.getElem?_of_mem h
      obtain ⟨i', t, g1, g2, g3, g4⟩ := hview j b hj
      have e : i = i' := by
        by_cases e : i = i'
        · exact e
        · exact (S.ctx.sep i i' b e hi g4).elim
      subst e
      rw [List.all_eq_true] at hfz
      have := hfz i (frzG_mem hk)
      rw [memN_iff.2 (ownG_mem g1 g2 g3)] at this
      cases this
    · obtain ⟨i', h1, h2, h3⟩ := hL'mem b h
      by_cases e : i = i'
      · subst e; exact h2 (frzG_mem hk)
      · exact S.ctx.sep i i' b e hi h3
  have hUeq : ∀ b, Mu (Mu fx.U0 L') Lc b → Mu fx.U0 (Lc ++ L') b := by
    rintro b ((h | h) | h)
    · exact .inl h
    · exact .inr (List.mem_append.2 (.inr h))
    · exact .inr (List.mem_append.2 (.inl h))
  have glc : Globs (Mu fx.U0 L') Lc w := fun p hp => by
    obtain ⟨g0, g1, g2, g3⟩ := fx.gl.now S.ctx p hp
    exact ⟨g0, fun h => h.elim g1 fun hm => g2 (hL'sub p.1 hm), fun hm => g2 (hLc p.1 hm).1, g3⟩
  have SC0 : St itsC.length ⟨Mu fx.U0 L', Lc, w, js.map (cJ κ), glc, fun _ _ => False⟩ (enumS 0 asC) itsC (js.map (cJ κ)) w := by
    refine ⟨by rw [List.length_map]; exact hlen, by rw [← hlen, ← List.length_map (f := cJ κ)]; exact List.take_length, by rw [List.length_map, hlen]; exact Nat.le_refl _, b3, b4, C0, fun j t c h1 h2 => ?_⟩
    obtain ⟨jx, x, g1, g2, g3⟩ := hget j t h1
    rw [List.getElem?_map, g1] at h2
    simp only [Option.map_some, Option.some.injEq] at h2
    subst h2
    have h4 := view_ok S b1 hsub hzz g1 g2 g3
    have hlt : t.lt (js.map (cJ κ)).length = true := by
      rw [List.length_map, hlen]
      unfold scI at b4
      rw [List.all_eq_true] at b4
      exact b4 _ (List.mem_of_getElem? h1)
    have h5 := OK.ext (κx := []) hlt hUeq h4
    rwa [List.append_nil] at h5
  have hcalls := spec (Mu fx.U0 L') (js.map (cJ κ)) w glc SC0
  have hbκ : ∀ (j i : Nat), js[j]? = some (.g i) ∨ js[j]? = some (.l i) ∨ js[j]? = some (.z i) → i < κ.length := by rw [S.len]; exact hbk
  rw [renSs_den hbκ hS] at hcalls
  refine .inr (.inr ⟨f, _, call_run hc hcal a ha, Calls.mono hcalls ?_⟩)
  rintro e w' ⟨κx, rfl, S'⟩
  refine ⟨_, rfl, κx, fun x hx => ?_, ?_⟩
  · injection hx with hx
    subst hx
    rw [shS_den S.len b1 hv]
  -- what is known behind the call
  have hlen2 : (js.map (cJ κ) ++ κx).length = itsC'.length := S'.len
  have hm : js.length ≤ itsC'.length := by rw [← hlen2, List.length_append, List.length_map]; omega
  have hbbl : bb.length = κx.length := by
    rw [s1, List.length_drop, ← hlen2, List.length_append, List.length_map]
    omega
  let R := Lof itsC' (js.map (cJ κ) ++ κx)
  have D : Ctx (Mu fx.U0 L') Lc w R w' := S'.ctx
  -- items of the result: where they come from
  have item : ∀ (p : Nat) (it : Item) (c : Conc), (aa ++ bb)[p]? = some it → (κ ++ κx)[p]? = some c →
      (p < its.length ∧ p ∉ ownG js itsC ∧ its[p]? = some it ∧ κ[p]? = some c) ∨ ∃ (k : Nat) (u : Item), itsC'[k]? = some u ∧ (js.map (cJ κ) ++ κx)[k]? = some c ∧ ((p < its.length ∧ js[k]? = some (.g p) ∧ shO its.length js.length js u = some it) ∨ (its.length ≤ p ∧ k = js.length + (p - its.length) ∧ shI its.length js.length js u = some it)) := by
    intro p it c h1 h2
    rcases Nat.lt_or_ge p its.length with hlt | hge
    · rw [List.getElem?_append_left (by rw [t1]; exact hlt)] at h1
      rw [List.getElem?_append_left (by rw [S.len]; exact hlt)] at h2
      by_cases ho : p ∈ ownG js itsC
      · right
        have : ∃ (k : Nat) (t : Item), js[k]? = some (.g p) ∧ itsC[k]? = some t ∧ t.owned = true := by
          have gen : ∀ {js : List Jx} {ts : List Item}, p ∈ ownG js ts → ∃ (k : Nat) (t : Item), js[k]? = some (.g p) ∧ ts[k]? = some t ∧ t.owned = true := by
            intro js
            induction js with
            | nil => intro ts h; cases ts <;> cases h
            | cons j js ih =>
              intro ts h
              cases ts with
              | nil => cases j <;> cases h
              | cons t ts =>
                have rec_ : p ∈ ownG js ts → ∃ (k : Nat) (t' : Item), (j :: js)[k]? = some (.g p) ∧ (t :: ts)[k]? = some t' ∧ t'.owned = true := fun h => by
                  obtain ⟨k, t', h1, h2, h3⟩ := ih h
                  exact ⟨k + 1, t', by simpa using h1, by simpa using h2, h3⟩
                cases j with
                | g q =>
                  simp only [ownG] at h
                  split at h
                  · rename_i ho
                    rcases List.mem_cons.1 h with rfl | h
                    · exact ⟨0, t, rfl, rfl, ho⟩
                    · exact rec_ h
                  · exact rec_ h
                | _ => exact rec_ h
          exact gen ho
        obtain ⟨k, t, g1, g2, g3⟩ := this
        have hk : k < js.length := (List.getElem?_eq_some_iff.1 g1).1
        have hu : itsC'[k]? = some itsC'[k] := List.getElem?_eq_getElem (by omega)
        obtain ⟨u', g4, g5⟩ := t3 k p t _ g1 g2 g3 hu hlt
        rw [g5] at h1
        injection h1 with h1
        subst h1
        refine ⟨k, _, hu, ?_, .inl ⟨hlt, g1, g4⟩⟩
        rw [List.getElem?_append_left (by rw [List.length_map]; exact hk), List.getElem?_map, g1]
        simp [cJ, h2]
      · left
        rw [t2 p ho] at h1
        exact ⟨hlt, ho, h1, h2⟩
    · right
      rw [List.getElem?_append_right (by rw [t1]; exact hge), t1] at h1
      rw [List.getElem?_append_right (by rw [S.len]; exact hge), S.len] at h2
      obtain ⟨u0, g1, g2⟩ := s2 _ it h1
      rw [List.getElem?_drop] at g1
      refine ⟨_, u0, g1, ?_, .inr ⟨hge, rfl, g2⟩⟩
      rw [List.getElem?_append_right (by rw [List.length_map]; omega), List.length_map]
      rw [show js.length + (p - its.length) - js.length = p - its.length from by omega]
      exact h2
  have hfrz : hasL js = false → frzG js = [] := by
    have gen : ∀ {js : List Jx}, hasL js = false → noZ js = true → frzG js = [] := by
      intro js
      induction js with
      | nil => intro _ _; rfl
      | cons j js ih => intro h1 h2; cases j <;> first | exact ih h1 h2 | cases h1 | cases h2
    exact fun h => gen h b7
  have shown : ∀ (k : Nat) (u it : Item) (c : Conc) (Lf : List (Option Nat)), (∀ b, some b ∈ Lf → some b ∈ R ∨ ∃ i : Nat, i ∉ ownG js itsC ∧ (Lof its κ)[i]? = some (some b)) → itsC'[k]? = some u → (js.map (cJ κ) ++ κx)[k]? = some c → (shI its.length js.length js u = some it ∧ js.length ≤ k ∨ shO its.length js.length js u = some it) →
      OK (κ ++ κx) (Mu fx.U0 Lf) w' it c ∧ (∀ b, own1 it c = some b → own1 u c = some b) ∧ it.ow = false := by
    intro k u it c Lf hLf h1 h2 h3
    have hU : hasL js = false → ∀ b, Mu fx.U0 Lf b → Mu (Mu fx.U0 L') R b := by
      intro hF b hM
      rcases hM with h | h
      · exact .inl (.inl h)
      · rcases hLf b h with h | ⟨i, h5, h6⟩
        · exact .inr h
        · refine .inl (.inr ?_)
          have hi : i < its.length := by
            have := (List.getElem?_eq_some_iff.1 h6).1
            simp only [Lof, List.length_zipWith] at this
            omega
          refine List.mem_map.2 ⟨i, List.mem_range.2 hi, ?_⟩
          rw [hfrz hF, if_neg (by simp [h5]), h6]
          rfl
    have main : shI its.length js.length js u = some it → (NoRd u ∨ js.length ≤ k) → OK (κ ++ κx) (Mu fx.U0 Lf) w' it c ∧ (∀ b, own1 it c = some b → own1 u c = some b) ∧ it.ow = false := by
      intro h3 h4
      have := sh_ok S.len b1 h3 (S'.ok k u c h1 h2) (U' := Mu fx.U0 Lf) (by
        rcases hF with hF | hF
        · exact .inl (hU hF)
        · have h5 := FlatA_get hF k u h1
          exact .inr ⟨h5.1, h4.elim id fun h => h5.2 (by rw [← hlen]; exact h)⟩)
      exact ⟨this.1, fun b hb => by rw [← this.2.1]; exact hb, this.2.2⟩
    rcases h3 with ⟨h3, h4⟩ | h3
    · exact main h3 (.inr h4)
    · cases u with
      | rd sz R0 l =>
        simp only [shO, Option.some.injEq] at h3
        subst h3
        exact ⟨by cases c <;> trivial, fun b hb => (by cases c <;> cases hb), rfl⟩
      | mp kk R0 ow l =>
        simp only [shO, Option.some.injEq] at h3
        subst h3
        exact ⟨by cases c <;> trivial, fun b hb => (by cases c <;> cases hb), rfl⟩
      | elt s ow cs => cases h3
      | blk T cs => exact main h3 (.inl trivial)
      | lm kk l => exact main h3 (.inl trivial)
      | own sz E R0 l => exact main h3 (.inl trivial)
      | str s => exact main h3 (.inl trivial)
      | adr => exact main h3 (.inl trivial)
      | gone => exact main h3 (.inl trivial)
  -- what is owned behind the call
  have hLf : ∀ (p b : Nat), (Lof (aa ++ bb) (κ ++ κx))[p]? = some (some b) → (p ∉ ownG js itsC ∧ (Lof its κ)[p]? = some (some b)) ∨ ∃ k : Nat, R[k]? = some (some b) ∧ ((js[k]? = some (.g p) ∧ p < its.length) ∨ (its.length ≤ p ∧ k = js.length + (p - its.length))) := by
    intro p b h
    obtain ⟨it, c, h1, h2, h3⟩ := Lof_inv h
    rcases item p it c h1 h2 with ⟨g1, g2, g3, g4⟩ | ⟨k, u, g1, g2, g3⟩
    · left
      refine ⟨g2, ?_⟩
      rw [Lof_get g3 g4, h3]
    · right
      have h4 := shown k u it c R (fun b hb => .inl hb) g1 g2 (by
        rcases g3 with ⟨_, _, h⟩ | ⟨_, hk, h⟩
        · exact .inr h
        · exact .inl ⟨h, by omega⟩)
      refine ⟨k, ?_, ?_⟩
      · rw [Lof_get g1 g2, h4.2.1 b h3]
      · rcases g3 with ⟨g3, g4, _⟩ | ⟨g3, g4, _⟩
        · exact .inl ⟨g4, g3⟩
        · exact .inr ⟨g3, g4⟩
  have hLfmem : ∀ b, some b ∈ Lof (aa ++ bb) (κ ++ κx) → some b ∈ R ∨ ∃ i : Nat, i ∉ ownG js itsC ∧ (Lof its κ)[i]? = some (some b) := by
    intro b hb
    obtain ⟨p, hp⟩ := List.getElem?_of_mem hb
    rcases hLf p b hp with ⟨h1, h2⟩ | ⟨k, h1, _⟩
    · exact .inr ⟨p, h1, h2⟩
    · exact .inl (List.mem_of_getElem? h1)
  have apart' : ∀ (k p b : Nat), R[k]? = some (some b) → p ∉ ownG js itsC → (Lof its κ)[p]? = some (some b) → False := by
    intro k p b h1 h2 h3
    rcases (D.live b (List.mem_of_getElem? h1)).2.2 with h | h
    · have := (S.ctx.live b (List.mem_of_getElem? h3)).1
      have h' : w.heap.size ≤ b := h
      omega
    · obtain ⟨j, hj⟩ := List.getElem?_of_mem h
      obtain ⟨i, t, g1, g2, g3, g4⟩ := hview j b hj
      by_cases e : p = i
      · subst e; exact h2 (ownG_mem g1 g2 g3)
      · exact S.ctx.sep p i b e h3 g4
  obtain ⟨CF, TF⟩ := S.ctx.back D (fun b hb => (hLc b hb).1) (Lf := Lof (aa ++ bb) (κ ++ κx)) (fun b hb => (hLfmem b hb).imp id fun ⟨i, _, h⟩ => List.mem_of_getElem? h) (by
    intro p q b hpq hp hq
    rcases hLf p b hp with ⟨h1, h2⟩ | ⟨k, h1, h2⟩ <;> rcases hLf q b hq with ⟨h3, h4⟩ | ⟨k', h3, h4⟩
    · exact S.ctx.sep p q b hpq h2 h4
    · exact apart' k' p b h3 h1 h2
    · exact apart' k q b h1 h3 h4
    · by_cases e : k = k'
      · subst e
        rcases h2 with ⟨h2, h5⟩ | ⟨h2, h5⟩ <;> rcases h4 with ⟨h4, h6⟩ | ⟨h4, h6⟩
        · rw [h2] at h4
          injection h4 with h4
          injection h4 with h4
          exact hpq h4
        · have := (List.getElem?_eq_some_iff.1 h2).1
          omega
        · have := (List.getElem?_eq_some_iff.1 h4).1
          omega
        · omega
      · exact D.sep k k' b e h1 h3)
  refine S.next (fun p => p ∈ ownG js itsC) (by rw [List.length_append, List.length_append, S.len, t1, hbbl]) (by rw [List.length_append, t1]; exact scE_mono (by omega) S.sce) hsci2 CF TF ?_ ?_
  · intro p it hp hnp hit
    have hκ : (κ ++ κx)[p]? = some (κ[p]'(by rw [S.len]; exact hp)) := by rw [List.getElem?_append_left (by rw [S.len]; exact hp)]; exact List.getElem?_eq_getElem (by rw [S.len]; exact hp)
    rcases item p it _ hit hκ with ⟨g1, g2, g3, g4⟩ | ⟨k, u, g1, g2, g3⟩
    · refine ⟨g3, noOw how _ (List.mem_of_getElem? g3), fun c b hc hb hm => ?_⟩
      obtain ⟨j, hj⟩ := List.getElem?_of_mem hm
      obtain ⟨i, t, q1, q2, q3, q4⟩ := hview j b hj
      have h5 := Lof_get g3 hc
      rw [hb] at h5
      by_cases e : p = i
      · subst e; exact g2 (ownG_mem q1 q2 q3)
      · exact S.ctx.sep p i b e h5 q4
    · rw [List.getElem?_append_left (by rw [t1]; exact hp), t2 p hnp] at hit
      refine ⟨hit, noOw how _ (List.mem_of_getElem? hit), fun c b hc hb hm => ?_⟩
      obtain ⟨j, hj⟩ := List.getElem?_of_mem hm
      obtain ⟨i, t, q1, q2, q3, q4⟩ := hview j b hj
      have h5 := Lof_get hit hc
      rw [hb] at h5
      by_cases e : p = i
      · subst e; exact hnp (ownG_mem q1 q2 q3)
      · exact S.ctx.sep p i b e h5 q4
  · intro p it c hp hit hc
    rcases item p it c hit hc with ⟨g1, g2, _, _⟩ | ⟨k, u, g1, g2, g3⟩
    · rcases hp with hp | hp
      · omega
      · exact absurd hp g2
    · refine (shown k u it c _ hLfmem g1 g2 ?_).1
      rcases g3 with ⟨_, _, h⟩ | ⟨_, hk, h⟩
      · exact .inr h
      · exact .inl ⟨h, by omega⟩
end
end V
end Go.Proofs.YtladkmnfmpojiaaGreatDoor
