/-
  Signals: both checks answer the same.
-/
import Derived.Test.YtndnilndhmalfaaOct
namespace Go.Proofs.Ytndnilndhmalfaa
namespace V
theorem ex_holds : wirelesslaw34_exampleHolds FF = some true := by kernel_rfl

theorem kinds (k : Int) : k = 1 ∨ k = 6 ∨ k = 7 ∨ k = 18 ∨ k = 19 ∨ k = 20 ∨ k = 21 ∨ k = 22 ∨ (k ≠ 1 ∧ k ≠ 6 ∧ k ≠ 7 ∧ k ≠ 18 ∧ k ≠ 19 ∧ k ≠ 20 ∧ k ≠ 21 ∧ k ≠ 22) := by omega
/-- What a kind uses. -/
def usesOf (k : Int) : T_wirelessref34_Uses :=
  if k = 1 ∨ k = 19 then ⟨true, false, false, false, false, false, true, false⟩
  else if k = 6 ∨ k = 7 then ⟨true, false, true, true, false, false, false, false⟩
  else if k = 18 then ⟨true, false, false, false, false, false, false, true⟩
  else if k = 20 then ⟨true, true, true, false, true, true, false, false⟩
  else if k = 21 then ⟨true, false, true, false, true, true, true, false⟩
  else if k = 22 then ⟨true, false, true, false, false, true, false, false⟩
  else ⟨false, false, false, false, false, false, false, false⟩
theorem fields_ok (F : Nat) (k : Int) : wirelessref34_Fields F k = some (usesOf k) := by
  rcases kinds k with rfl | rfl | rfl | rfl | rfl | rfl | rfl | rfl | h
  any_goals rfl
  obtain ⟨h1, h2, h3, h4, h5, h6, h7, h8⟩ := h
  simp [wirelessref34_Fields, wirelessref34_Fields_j1, wirelessref34_Fields_j2, usesOf, h1, h2, h3, h4, h5, h6, h7, h8]
theorem known_ok (F : Nat) (k : Int) : signal_known F k = some (usesOf k).Known := by
  rcases kinds k with rfl | rfl | rfl | rfl | rfl | rfl | rfl | rfl | h
  any_goals rfl
  obtain ⟨h1, h2, h3, h4, h5, h6, h7, h8⟩ := h
  simp [signal_known, signal_known_j1, usesOf, h1, h2, h3, h4, h5, h6, h7, h8]
/-- Whether fields that the kind does not use are 0. -/
def updZ (u : T_api_Update) : Bool := ((u.WinSize == 0) && ((u.WinOffset == 0) && ((u.Interval == 0) && ((u.Latency == 0) && (u.Timeout == 0)))))
def blankOf (s : T_api_Signal) : Bool :=
  ((usesOf s.Kind).PSM || s.PSM == 0) && ((usesOf s.Kind).Source || s.Source == 0) && ((usesOf s.Kind).Dest || s.Dest == 0) && ((usesOf s.Kind).Sizes || (s.MTU == 0 && s.MPS == 0)) && ((usesOf s.Kind).Credits || s.Credits == 0) && ((usesOf s.Kind).Result || s.Result == 0) &&
    ((usesOf s.Kind).Update || updZ s.Update)
theorem na (a : Bool) (x : Int) : ((!a) && (x != 0)) = !(a || (x == 0)) := by cases a <;> simp [bne]
theorem nb (a : Bool) (x y : Int) : ((!a) && ((x != 0) || (y != 0))) = !(a || ((x == 0) && (y == 0))) := by cases a <;> simp [bne, Bool.not_and]
theorem unused_bool : ∀ p1 p2 p3 p4 p5 p6 u q : Bool, (if (((!p1 || !p2) || !p3) || !p4) = true then some false else (if (p5 && p6) = true then (if u = true then some true else some q) else some false).bind fun z_4 => some z_4) = some (p1 && p2 && p3 && p4 && p5 && p6 && (u || q)) := by decide
theorem unused_ok (F : Nat) (s : T_api_Signal) : wirelessref34_unused F s = some (blankOf s) := by
  unfold wirelessref34_unused blankOf
  rw [fields_ok]
  simp only [Option.bind_some]
  rw [na, na, na, nb]
  exact unused_bool _ _ _ _ _ _ _ _
/-- The same by the program: what is used is copied, and both compared. -/
theorem used_ok (F : Nat) (s : T_api_Signal) : ∃ x, signal_used F s = some x ∧ ((s.Kind == x.Kind) && ((s.ID == x.ID) && ((s.PSM == x.PSM) && ((s.Source == x.Source) && ((s.Dest == x.Dest) && ((s.MTU == x.MTU) && ((s.MPS == x.MPS) && ((s.Credits == x.Credits) && ((s.Result == x.Result) && ((s.Update.WinSize == x.Update.WinSize) && ((s.Update.WinOffset == x.Update.WinOffset) && ((s.Update.Interval == x.Update.Interval) && ((s.Update.Latency == x.Update.Latency) && (s.Update.Timeout == x.Update.Timeout)))))))))))))) = blankOf s := by
  obtain ⟨k, id, p, so, de, mt, mp, cr, re, ⟨u1, u2, u3, u4, u5⟩⟩ := s
  rcases kinds k with rfl | rfl | rfl | rfl | rfl | rfl | rfl | rfl | h
  any_goals
    refine ⟨_, rfl, ?_⟩
    simp [blankOf, usesOf, updZ, Bool.and_assoc]
  · obtain ⟨h1, h2, h3, h4, h5, h6, h7, h8⟩ := h
    refine ⟨_, by simp only [signal_used, h1, h2, h3, h4, h5, h6, h7, h8, beq_iff_eq, if_false]; rfl, ?_⟩
    simp [blankOf, usesOf, updZ, Bool.and_assoc, h1, h2, h3, h4, h5, h6, h7, h8]

def resOf (s : T_api_Signal) : Bool := !(usesOf s.Kind).Result || (if s.Kind = 1 then ((s.Result == 0) || (s.Result == 2)) else if s.Kind = 19 then ((s.Result == 0) || (s.Result == 1)) else (((((s.Result == 0) || (s.Result == 2)) || (s.Result == 4)) || (s.Result == 5)) || (s.Result == 9)))
theorem result_ok (F : Nat) (s : T_api_Signal) : signal_result F s = some (resOf s) := by
  obtain ⟨k, id, p, so, de, mt, mp, cr, re, u⟩ := s
  rcases kinds k with rfl | rfl | rfl | rfl | rfl | rfl | rfl | rfl | h
  any_goals rfl
  · simp only [signal_result, signal_result_j1, resOf, usesOf]
    cases h0 : re == 0 <;> cases h1 : re == 2 <;> cases h2 : re == 4 <;> cases h3 : re == 5 <;> simp
    by_cases h9 : re = 9 <;> simp [h9]
  · obtain ⟨h1, h2, h3, h4, h5, h6, h7, h8⟩ := h
    simp [signal_result, resOf, usesOf, h1, h2, h3, h4, h5, h6, h7, h8]
theorem isResult_ok (F : Nat) (s : T_api_Signal) : (if (usesOf s.Kind).Result = true then (wirelessref34_isResult F s.Kind s.Result).bind fun x => some (!x) else some false) = some (!resOf s) := by
  obtain ⟨k, id, p, so, de, mt, mp, cr, re, u⟩ := s
  rcases kinds k with rfl | rfl | rfl | rfl | rfl | rfl | rfl | rfl | h
  any_goals rfl
  · obtain ⟨h1, h2, h3, h4, h5, h6, h7, h8⟩ := h
    simp [resOf, usesOf, h1, h2, h3, h4, h5, h6, h7, h8]
def cid (n : Int) : Bool := (decide (n ≥ 64)) && (decide (n ≤ 127))
def siz (n : Int) : Bool := (decide (n ≥ 23)) && (decide (n ≤ 4096))
def rngOf (s : T_api_Signal) : Bool := (!(usesOf s.Kind).Source || cid s.Source) && (!(usesOf s.Kind).Dest || cid s.Dest) && (!(usesOf s.Kind).Sizes || (siz s.MTU && siz s.MPS)) && (!(usesOf s.Kind).Credits || ((decide (s.Credits ≥ (if s.Kind = 22 then 1 else 0))) && (decide (s.Credits ≤ 65535))))
theorem ranges_ok (F : Nat) (s : T_api_Signal) : signal_ranges F s = some (rngOf s) := by
  obtain ⟨k, id, p, so, de, mt, mp, cr, re, u⟩ := s
  rcases kinds k with rfl | rfl | rfl | rfl | rfl | rfl | rfl | rfl | h
  · rfl
  · simp only [signal_ranges, signal_ranges_j1, signal_channel, rngOf, usesOf, cid]
    cases (decide (so ≥ 64)) && (decide (so ≤ 127)) <;> simp
  · simp only [signal_ranges, signal_ranges_j1, signal_channel, rngOf, usesOf, cid]
    cases (decide (so ≥ 64)) && (decide (so ≤ 127)) <;> simp
  · rfl
  · rfl
  · simp only [signal_ranges, signal_ranges_j1, signal_ranges_j2, signal_channel, signal_size, rngOf, usesOf, cid, siz]
    cases (decide (so ≥ 64)) && (decide (so ≤ 127)) <;> cases (decide (mt ≥ 23)) && (decide (mt ≤ 4096)) <;> simp [Bool.and_assoc]
  · simp only [signal_ranges, signal_ranges_j1, signal_ranges_j2, signal_channel, signal_size, rngOf, usesOf, cid, siz]
    cases (decide (so ≥ 64)) && (decide (so ≤ 127)) <;> cases (decide (mt ≥ 23)) && (decide (mt ≤ 4096)) <;> simp [Bool.and_assoc]
  · simp only [signal_ranges, signal_ranges_j1, signal_ranges_j2, signal_channel, rngOf, usesOf, cid]
    simp [Bool.and_assoc]
  · obtain ⟨h1, h2, h3, h4, h5, h6, h7, h8⟩ := h
    simp [signal_ranges, signal_ranges_j1, signal_ranges_j2, rngOf, usesOf, h1, h2, h3, h4, h5, h6, h7, h8]
theorem inRange_bool : ∀ b c d e x1 x2 x3 x4 q : Bool, ((if b = true then (some x1).bind fun x_19 => some !x_19 else some false).bind fun z_4 =>
      (if z_4 = true then some true else if c = true then (some x2).bind fun x_17 => some !x_17 else some false).bind fun z_6 =>
        (if z_6 = true then some true else if d = true then (some x3).bind fun x_12 => if (!x_12) = true then some true else (some x4).bind fun x_14 => some !x_14 else some false).bind fun z_8 =>
          if z_8 = true then some false else some (!e || q)) = some ((!b || x1) && (!c || x2) && (!d || x3 && x4) && (!e || q)) := by decide
theorem inRange_ok (F : Nat) (s : T_api_Signal) : wirelessref34_inRange F s = some (rngOf s) := by
  unfold wirelessref34_inRange rngOf
  rw [fields_ok, Option.bind_some]
  have hc : ∀ n, wirelessref34_isCID F n = some (cid n) := fun _ => rfl
  have hz : ∀ n, wirelessref34_isSize F n = some (siz n) := fun _ => rfl
  have hj : ∀ x, (if (s.Kind == 22) = true then wirelessref34_inRange_j1 F s x 1 else wirelessref34_inRange_j1 F s x 0) = some ((!x.Credits) || ((decide (s.Credits ≥ (if s.Kind = 22 then 1 else 0))) && (decide (s.Credits ≤ 65535)))) := by
    intro x
    by_cases hk : s.Kind = 22
    · rw [if_pos (by simp [hk]), if_pos hk]; rfl
    · rw [if_neg (by simp [hk]), if_neg hk]; rfl
  rw [hj]
  simp only [hc, hz]
  exact inRange_bool _ _ _ _ _ _ _ _ _
def spanIn (p : T_connect_span) : Bool := !((decide (p.n < p.low)) || (decide (p.n > p.high)))
theorem within_ok (F : Nat) (l : List T_connect_span) (hF : l.length < F) (hl : l.length ≤ 1000) : connect_within F l = some (l.all spanIn) := by
  unfold connect_within
  have := iter_any (body := fun s => connect_within_l1 F l s) (l := l) (p := fun p => !spanIn p) (o := .inr false) (e := .inl ()) (fun i x hx => by
    have hlt := (List.getElem?_eq_some_iff.1 hx).1
    show connect_within_l1 F l i = _
    unfold connect_within_l1
    rw [if_pos (by simp [len]; omega), idx_nat, hx]
    simp only [Option.bind_some, spanIn, Bool.not_not]
    rw [w64_nat i (by omega)]
    split <;> rfl) (by
    show connect_within_l1 F l _ = _
    unfold connect_within_l1
    rw [if_neg (by simp [len])]) F 0 (by omega) (by omega)
  rw [show ((0 : Nat) : Int) = 0 from rfl] at this
  rw [this]
  simp only [Option.bind_some, List.drop_zero]
  have h2 : (l.any fun p => !spanIn p) = !(l.all spanIn) := by
    rw [List.any_eq_not_all_not]
    simp
  rw [h2]
  cases l.all spanIn <;> rfl
def updOf (u : T_api_Update) : Int :=
  if ([(⟨u.WinSize, 1, 8⟩ : T_connect_span), ⟨u.WinOffset, 0, 3200⟩, ⟨u.Interval, 6, 3200⟩, ⟨u.Latency, 0, 499⟩, ⟨u.Timeout, 10, 3200⟩].all spanIn) = false then 5 else
  if (((decide (u.WinSize ≥ u.Interval)) || (decide (u.WinOffset > u.Interval))) || (decide ((w64 (u.Timeout * 10000)) ≤ (w64 ((w64 ((w64 (2 * (w64 (u.Latency + 1)))) * u.Interval)) * 1250))))) = true then 11 else 0
theorem upd_ok (F : Nat) (u : T_api_Update) (hF : 5 < F) : connect_CheckUpdate F u = some (updOf u) := by
  unfold connect_CheckUpdate updOf
  rw [within_ok F _ (by simpa using hF) (by simp)]
  simp only [Option.bind_some]
  generalize List.all _ spanIn = b
  cases b <;> simp <;> split <;> rfl
theorem refupd_bool : ∀ x1 x2 x3 x4 x5 w : Bool, ((some x1).bind fun x_2 =>
  (if (!x_2) = true then some (true) else (some x2).bind fun x_18 => some ((!x_18))).bind fun z_4 =>
  (if z_4 = true then some (true) else (some x3).bind fun x_16 => some ((!x_16))).bind fun z_6 =>
  (if z_6 = true then some (true) else (some x4).bind fun x_14 => some ((!x_14))).bind fun z_8 =>
  (if z_8 = true then some (true) else (some x5).bind fun x_12 => some ((!x_12))).bind fun z_10 =>
  if z_10 = true then some (5 : Int) else if w = true then some 11 else some 0) = some (if (x1 && (x2 && (x3 && (x4 && x5)))) = false then 5 else if w = true then 11 else 0) := by decide
theorem refupd_ok (F : Nat) (u : T_api_Update) : wirelessref17_CheckUpdate F u = some (updOf u) := by
  have hs : ∀ n a b, spanIn ⟨n, a, b⟩ = ((decide (n ≥ a)) && (decide (n ≤ b))) := by
    intro n a b
    unfold spanIn
    by_cases h1 : n < a <;> by_cases h2 : n > b <;> simp [h1, h2] <;> omega
  unfold wirelessref17_CheckUpdate updOf wirelessref17_within
  simp only [List.all_cons, List.all_nil, hs, Bool.and_true]
  exact refupd_bool _ _ _ _ _ _
/-- What both checks answer. -/
def chk (s : T_api_Signal) : Int :=
  if (usesOf s.Kind).Known = false then 12 else if ((decide (s.ID < 1)) || (decide (s.ID > 255))) = true then 5 else if blankOf s = false then 1 else if resOf s = false then 5 else
  if ((s.Kind == 21) && (s.Result != 0)) = true then (if ((((s.Source != 0) || (s.MTU != 0)) || (s.MPS != 0)) || (s.Credits != 0)) = true then 1 else 0) else
  if ((usesOf s.Kind).PSM && (s.PSM == 0)) = true then 1 else if rngOf s = false then 5 else if (usesOf s.Kind).Update = true then updOf s.Update else 0
theorem psm_kind (k : Int) : (usesOf k).PSM = (k == 20) := by
  rcases kinds k with rfl | rfl | rfl | rfl | rfl | rfl | rfl | rfl | h
  any_goals rfl
  obtain ⟨h1, h2, h3, h4, h5, h6, h7, h8⟩ := h
  simp [usesOf, h1, h2, h3, h4, h5, h6, h7, h8]
theorem upd_kind (k : Int) : (usesOf k).Update = (k == 18) := by
  rcases kinds k with rfl | rfl | rfl | rfl | rfl | rfl | rfl | rfl | h
  any_goals rfl
  obtain ⟨h1, h2, h3, h4, h5, h6, h7, h8⟩ := h
  simp [usesOf, h1, h2, h3, h4, h5, h6, h7, h8]
theorem sig_check (F : Nat) (s : T_api_Signal) (hF : 5 < F) : signal_Check F s = some (chk s) := by
  unfold signal_Check chk
  obtain ⟨x, hx, he⟩ := used_ok F s
  rw [known_ok, hx]
  simp only [Option.bind_some, he, signal_Check_j1, result_ok, ranges_ok, upd_ok F _ hF, psm_kind, upd_kind]
  cases (usesOf s.Kind).Known <;> simp only [Bool.not_true, Bool.not_false, if_true, if_false, Bool.false_eq_true, reduceCtorEq]
  cases (decide (s.ID < 1)) || (decide (s.ID > 255)) <;> simp only [if_true, if_false, Bool.false_eq_true]
  cases blankOf s <;> simp only [Bool.not_true, Bool.not_false, if_true, if_false, Bool.false_eq_true, reduceCtorEq]
  cases resOf s <;> simp only [Bool.not_true, Bool.not_false, if_true, if_false, Bool.false_eq_true, reduceCtorEq]
  cases (s.Kind == 21) && (s.Result != 0) <;> simp only [if_true, if_false, Bool.false_eq_true]
  · cases (s.Kind == 20) && (s.PSM == 0) <;> simp only [if_true, if_false, Bool.false_eq_true]
    cases rngOf s <;> simp only [Bool.not_true, Bool.not_false, if_true, if_false, Bool.false_eq_true, reduceCtorEq]
    cases s.Kind == 18 <;> simp only [if_true, if_false, Bool.false_eq_true]
  · split <;> rfl
theorem ref_check (F : Nat) (s : T_api_Signal) : wirelessref34_Check F s = some (chk s) := by
  unfold wirelessref34_Check chk
  rw [fields_ok, unused_ok]
  simp only [Option.bind_some, isResult_ok, inRange_ok, refupd_ok]
  cases (usesOf s.Kind).Known <;> simp only [Bool.not_true, Bool.not_false, if_true, if_false, Bool.false_eq_true, reduceCtorEq]
  cases (decide (s.ID < 1)) || (decide (s.ID > 255)) <;> simp only [if_true, if_false, Bool.false_eq_true]
  cases blankOf s <;> simp only [Bool.not_true, Bool.not_false, if_true, if_false, Bool.false_eq_true, reduceCtorEq]
  cases resOf s <;> simp only [Bool.not_true, Bool.not_false, if_true, if_false, Bool.false_eq_true, reduceCtorEq]
  cases (s.Kind == 21) && (s.Result != 0) <;> simp only [if_true, if_false, Bool.false_eq_true]
  · cases (usesOf s.Kind).PSM && (s.PSM == 0) <;> simp only [if_true, if_false, Bool.false_eq_true]
    cases rngOf s <;> simp only [Bool.not_true, Bool.not_false, if_true, if_false, Bool.false_eq_true, reduceCtorEq]
    cases (usesOf s.Kind).Update <;> simp only [if_true, if_false, Bool.false_eq_true]
  · split <;> rfl
theorem checks_law (s : T_api_Signal) : wirelesslaw34_SignalChecks FF s = some true := by
  unfold wirelesslaw34_SignalChecks
  rw [sig_check FF s (by decide), ref_check]
  simp only [Option.bind_some, beq_self_eq_true, if_true, ex_holds, wirelesslaw34_SignalChecks_j1]
end V
end Go.Proofs.Ytndnilndhmalfaa
