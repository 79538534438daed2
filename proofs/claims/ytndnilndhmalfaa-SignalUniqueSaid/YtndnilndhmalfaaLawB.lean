/-
  Signals: what is encoded.
-/
import Derived.Test.YtndnilndhmalfaaLawA
namespace Go.Proofs.Ytndnilndhmalfaa
namespace V
/-- The fields of a kind: sizes and values. -/
def valsOf (s : T_api_Signal) : List (Nat × Int) :=
  if s.Kind = 1 ∨ s.Kind = 19 then [(2, s.Result)]
  else if s.Kind = 6 ∨ s.Kind = 7 then [(2, s.Source), (2, s.Dest)]
  else if s.Kind = 18 then [(1, s.Update.WinSize), (2, s.Update.WinOffset), (2, s.Update.Interval), (2, s.Update.Latency), (2, s.Update.Timeout)]
  else if s.Kind = 20 then [(2, s.PSM), (2, s.Source), (2, s.MTU), (2, s.MPS), (2, s.Credits)]
  else if s.Kind = 21 then [(2, s.Source), (2, s.MTU), (2, s.MPS), (2, s.Credits), (2, s.Result)]
  else [(2, s.Source), (2, s.Credits)]
def Fit (s : T_api_Signal) : Prop := ∀ p ∈ valsOf s, 0 ≤ p.2 ∧ p.2 < 256 ^ p.1
theorem chk_zero {s : T_api_Signal} (h : chk s = 0) : (usesOf s.Kind).Known = true ∧ 1 ≤ s.ID ∧ s.ID ≤ 255 ∧ blankOf s = true ∧ resOf s = true ∧
    ((s.Kind = 21 ∧ s.Source = 0 ∧ s.MTU = 0 ∧ s.MPS = 0 ∧ s.Credits = 0) ∨ (rngOf s = true ∧ (s.Kind = 18 → updOf s.Update = 0))) := by
  unfold chk at h
  split at h
  · cases h
  rename_i h1
  split at h
  · cases h
  rename_i h2
  split at h
  · cases h
  rename_i h3
  split at h
  · cases h
  rename_i h4
  simp at h2
  refine ⟨by simpa using h1, by omega, by omega, by simpa using h3, by simpa using h4, ?_⟩
  split at h
  · rename_i h5
    split at h
    · cases h
    · rename_i h6
      simp at h5 h6
      exact .inl ⟨h5.1, by omega, by omega, by omega, by omega⟩
  · split at h
    · cases h
    · split at h
      · cases h
      · rename_i h7
        refine .inr ⟨by simpa using h7, fun hk => ?_⟩
        rw [upd_kind, hk] at h
        simpa using h
theorem cid_iff {n : Int} : cid n = true ↔ 64 ≤ n ∧ n ≤ 127 := by simp [cid]
theorem siz_iff {n : Int} : siz n = true ↔ 23 ≤ n ∧ n ≤ 4096 := by simp [siz]
theorem upd_zero {u : T_api_Update} (h : updOf u = 0) : (1 ≤ u.WinSize ∧ u.WinSize ≤ 8) ∧ (0 ≤ u.WinOffset ∧ u.WinOffset ≤ 3200) ∧ (6 ≤ u.Interval ∧ u.Interval ≤ 3200) ∧ (0 ≤ u.Latency ∧ u.Latency ≤ 499) ∧ 10 ≤ u.Timeout ∧ u.Timeout ≤ 3200 := by
  unfold updOf at h
  split at h
  · cases h
  · rename_i h1
    simp [spanIn] at h1
    omega
theorem p2 : (256 : Int) ^ 2 = 65536 := by decide
theorem p1 : (256 : Int) ^ 1 = 256 := by decide
theorem fit_ok {s : T_api_Signal} (h : chk s = 0) (hp : 0 ≤ s.PSM ∧ s.PSM ≤ 65535) : Fit s := by
  obtain ⟨h1, _, _, h4, h5, h6⟩ := chk_zero h
  obtain ⟨k, id, p, so, de, mt, mp, cr, re, u⟩ := s
  rcases kinds k with rfl | rfl | rfl | rfl | rfl | rfl | rfl | rfl | hk
  · simp [resOf, usesOf] at h5
    intro q hq
    simp [valsOf] at hq
    subst hq
    simp only [p2]; omega
  · simp [rngOf, usesOf, cid_iff] at h6
    intro q hq
    simp [valsOf] at hq
    rcases hq with rfl | rfl <;> simp only [p2] <;> omega
  · simp [rngOf, usesOf, cid_iff] at h6
    intro q hq
    simp [valsOf] at hq
    rcases hq with rfl | rfl <;> simp only [p2] <;> omega
  · have h7 : updOf u = 0 := by
      simp at h6
      exact h6.2
    obtain ⟨g1, g2, g3, g4, g5⟩ := upd_zero h7
    intro q hq
    simp [valsOf] at hq
    rcases hq with rfl | rfl | rfl | rfl | rfl <;> simp only [p2, p1] <;> omega
  · simp [resOf, usesOf] at h5
    intro q hq
    simp [valsOf] at hq
    subst hq
    simp only [p2]; omega
  · simp [rngOf, usesOf, cid_iff, siz_iff] at h6
    intro q hq
    simp [valsOf] at hq
    rcases hq with rfl | rfl | rfl | rfl | rfl <;> simp only [p2] <;> simp only at hp <;> omega
  · simp [resOf, usesOf] at h5
    simp [rngOf, usesOf, cid_iff, siz_iff] at h6
    intro q hq
    simp [valsOf] at hq
    rcases hq with rfl | rfl | rfl | rfl | rfl <;> simp only [p2] <;> omega
  · simp [rngOf, usesOf, cid_iff, siz_iff] at h6
    intro q hq
    simp [valsOf] at hq
    rcases hq with rfl | rfl <;> simp only [p2] <;> omega
  · obtain ⟨g1, g2, g3, g4, g5, g6, g7, g8⟩ := hk
    simp [usesOf, g1, g2, g3, g4, g5, g6, g7, g8] at h1
/-- The bytes of the fields; the whole. -/
def bodyOf (s : T_api_Signal) : List Int := ((valsOf s).map fun p => leb p.1 p.2).flatten
def encOf (s : T_api_Signal) : List Int := [wu8 s.Kind, wu8 s.ID, wu8 ((bodyOf s).length : Int), 0] ++ bodyOf s
def fldsOf (s : T_api_Signal) : List T_api_Field := (valsOf s).map fun p => ⟨(p.1 : Int), p.2⟩
theorem flds_put (s : T_api_Signal) : putAll (fldsOf s) = bodyOf s := by
  unfold putAll fldsOf bodyOf
  rw [List.map_map]
  rfl
theorem vals_size (s : T_api_Signal) : ∀ p ∈ valsOf s, p.1 = 1 ∨ p.1 = 2 := by
  intro p hp
  unfold valsOf at hp
  (repeat' split at hp) <;> simp at hp <;> (try rcases hp with rfl | rfl | rfl | rfl | rfl) <;> (try rcases hp with rfl | rfl) <;> (try subst hp) <;> simp
theorem flds_ok {s : T_api_Signal} (h : Fit s) : ∀ f ∈ fldsOf s, FieldOk f := by
  intro f hf
  obtain ⟨p, hp, rfl⟩ := List.mem_map.1 hf
  obtain ⟨h1, h2⟩ := h p hp
  rcases vals_size s p hp with e | e
  · rw [e] at h2
    refine ⟨by simp [e], by simp [e], h1, ?_, by simpa [e] using h2⟩
    simp only [p1] at h2; show p.2 < _; omega
  · rw [e] at h2
    refine ⟨by simp [e], by simp [e], h1, ?_, by simpa [e] using h2⟩
    simp only [p2] at h2; show p.2 < _; omega
theorem vals_len (s : T_api_Signal) : (valsOf s).length ≤ 5 := by
  unfold valsOf
  (repeat' split) <;> simp
theorem body_len (s : T_api_Signal) : (bodyOf s).length ≤ 10 := by
  unfold bodyOf valsOf
  (repeat' split) <;> simp [leb_length]
/-- The program's loop over sizes and numbers. -/
theorem enc_loop (s : T_api_Signal) (h : Fit s) (hk : (usesOf s.Kind).Known = true) : ∃ sz nu, signal_sizes FF s.Kind = some sz ∧ signal_numbers FF s = some nu ∧
    iter (fun t => signal_Encode_l1 FF sz nu t.1 t.2.1 t.2.2) FF ([], 0, 0) = some (fldsOf s, ((bodyOf s).length : Int)) := by
  have wid : ∀ {x : Int} {k : Nat}, 0 ≤ x ∧ x < 256 ^ k → k = 1 ∨ k = 2 → wu64 x = x ∧ wu64 (w64 x) = x := by
    intro x k hx hk
    have : x < 65536 := by rcases hk with rfl | rfl <;> simp only [p1, p2] at hx <;> omega
    rw [w64_id (by omega) (by omega), wu64_id (by omega) (by omega)]
    exact ⟨rfl, rfl⟩
  obtain ⟨k, id, p, so, de, mt, mp, cr, re, ⟨u1, u2, u3, u4, u5⟩⟩ := s
  rcases kinds k with rfl | rfl | rfl | rfl | rfl | rfl | rfl | rfl | hk'
  · refine ⟨_, _, rfl, rfl, ?_⟩
    have e1 := (wid (h (2, re) (by simp [valsOf])) (.inr rfl)).1
    have : iter (fun t => signal_Encode_l1 FF [2] [re] t.1 t.2.1 t.2.2) FF ([], 0, 0) = some ([⟨2, wu64 re⟩], 2) := by kernel_rfl
    rw [e1] at this
    exact this
  · refine ⟨_, _, rfl, rfl, ?_⟩
    have e1 := (wid (h (2, so) (by simp [valsOf])) (.inr rfl)).2
    have e2 := (wid (h (2, de) (by simp [valsOf])) (.inr rfl)).2
    have : iter (fun t => signal_Encode_l1 FF [2, 2] [w64 so, w64 de] t.1 t.2.1 t.2.2) FF ([], 0, 0) = some ([⟨2, wu64 (w64 so)⟩, ⟨2, wu64 (w64 de)⟩], 4) := by kernel_rfl
    rw [e1, e2] at this
    exact this
  · refine ⟨_, _, rfl, rfl, ?_⟩
    have e1 := (wid (h (2, so) (by simp [valsOf])) (.inr rfl)).2
    have e2 := (wid (h (2, de) (by simp [valsOf])) (.inr rfl)).2
    have : iter (fun t => signal_Encode_l1 FF [2, 2] [w64 so, w64 de] t.1 t.2.1 t.2.2) FF ([], 0, 0) = some ([⟨2, wu64 (w64 so)⟩, ⟨2, wu64 (w64 de)⟩], 4) := by kernel_rfl
    rw [e1, e2] at this
    exact this
  · refine ⟨_, _, rfl, rfl, ?_⟩
    have e1 := (wid (h (1, u1) (by simp [valsOf])) (.inl rfl)).1
    have e2 := (wid (h (2, u2) (by simp [valsOf])) (.inr rfl)).1
    have e3 := (wid (h (2, u3) (by simp [valsOf])) (.inr rfl)).1
    have e4 := (wid (h (2, u4) (by simp [valsOf])) (.inr rfl)).1
    have e5 := (wid (h (2, u5) (by simp [valsOf])) (.inr rfl)).1
    have : iter (fun t => signal_Encode_l1 FF [1, 2, 2, 2, 2] [u1, u2, u3, u4, u5] t.1 t.2.1 t.2.2) FF ([], 0, 0) = some ([⟨1, wu64 u1⟩, ⟨2, wu64 u2⟩, ⟨2, wu64 u3⟩, ⟨2, wu64 u4⟩, ⟨2, wu64 u5⟩], 9) := by kernel_rfl
    rw [e1, e2, e3, e4, e5] at this
    exact this
  · refine ⟨_, _, rfl, rfl, ?_⟩
    have e1 := (wid (h (2, re) (by simp [valsOf])) (.inr rfl)).1
    have : iter (fun t => signal_Encode_l1 FF [2] [re] t.1 t.2.1 t.2.2) FF ([], 0, 0) = some ([⟨2, wu64 re⟩], 2) := by kernel_rfl
    rw [e1] at this
    exact this
  · refine ⟨_, _, rfl, rfl, ?_⟩
    have e1 := (wid (h (2, p) (by simp [valsOf])) (.inr rfl)).2
    have e2 := (wid (h (2, so) (by simp [valsOf])) (.inr rfl)).2
    have e3 := (wid (h (2, mt) (by simp [valsOf])) (.inr rfl)).1
    have e4 := (wid (h (2, mp) (by simp [valsOf])) (.inr rfl)).1
    have e5 := (wid (h (2, cr) (by simp [valsOf])) (.inr rfl)).1
    have : iter (fun t => signal_Encode_l1 FF [2, 2, 2, 2, 2] [w64 p, w64 so, mt, mp, cr] t.1 t.2.1 t.2.2) FF ([], 0, 0) = some ([⟨2, wu64 (w64 p)⟩, ⟨2, wu64 (w64 so)⟩, ⟨2, wu64 mt⟩, ⟨2, wu64 mp⟩, ⟨2, wu64 cr⟩], 10) := by kernel_rfl
    rw [e1, e2, e3, e4, e5] at this
    exact this
  · refine ⟨_, _, rfl, rfl, ?_⟩
    have e1 := (wid (h (2, so) (by simp [valsOf])) (.inr rfl)).2
    have e2 := (wid (h (2, mt) (by simp [valsOf])) (.inr rfl)).1
    have e3 := (wid (h (2, mp) (by simp [valsOf])) (.inr rfl)).1
    have e4 := (wid (h (2, cr) (by simp [valsOf])) (.inr rfl)).1
    have e5 := (wid (h (2, re) (by simp [valsOf])) (.inr rfl)).1
    have : iter (fun t => signal_Encode_l1 FF [2, 2, 2, 2, 2] [w64 so, mt, mp, cr, re] t.1 t.2.1 t.2.2) FF ([], 0, 0) = some ([⟨2, wu64 (w64 so)⟩, ⟨2, wu64 mt⟩, ⟨2, wu64 mp⟩, ⟨2, wu64 cr⟩, ⟨2, wu64 re⟩], 10) := by kernel_rfl
    rw [e1, e2, e3, e4, e5] at this
    exact this
  · refine ⟨_, _, rfl, rfl, ?_⟩
    have e1 := (wid (h (2, so) (by simp [valsOf])) (.inr rfl)).2
    have e2 := (wid (h (2, cr) (by simp [valsOf])) (.inr rfl)).1
    have : iter (fun t => signal_Encode_l1 FF [2, 2] [w64 so, cr] t.1 t.2.1 t.2.2) FF ([], 0, 0) = some ([⟨2, wu64 (w64 so)⟩, ⟨2, wu64 cr⟩], 4) := by kernel_rfl
    rw [e1, e2] at this
    exact this
  · obtain ⟨g1, g2, g3, g4, g5, g6, g7, g8⟩ := hk'
    simp [usesOf, g1, g2, g3, g4, g5, g6, g7, g8] at hk
def encSpec (s : T_api_Signal) : List Int × Int := if chk s = 0 then (encOf s, 0) else ([], chk s)
theorem sig_enc (s : T_api_Signal) (hp : 0 ≤ s.PSM ∧ s.PSM ≤ 65535) : signal_Encode FF s = some (encSpec s) := by
  unfold signal_Encode encSpec
  rw [sig_check FF s (by decide)]
  simp only [Option.bind_some]
  by_cases h : chk s = 0
  · have hf := fit_ok h hp
    obtain ⟨sz, nu, h1, h2, h3⟩ := enc_loop s hf (chk_zero h).1
    rw [if_neg (by simp [h]), if_pos h, h1]
    simp only [Option.bind_some]
    rw [h2]
    simp only [Option.bind_some]
    rw [h3]
    simp only [Option.bind_some, signal_Encode_j1]
    have hl := vals_len s
    rw [oput_ok FF (fldsOf s) (flds_ok hf) (by simp [fldsOf]; omega) (by simp [fldsOf, FF]; omega)]
    simp only [Option.bind_some]
    rw [if_neg (by simp), flds_put]
    have hb := body_len s
    rw [join_two FF _ _ (by decide) (by simp; omega)]
    rfl
  · rw [if_pos (by simpa using h), if_neg h]
theorem put2 {x : Int} (h : 0 ≤ x ∧ x < 256 ^ 2) : wirelessref23_Put FF (wu64 x) 2 = some (leb 2 x) := by
  simp only [p2] at h
  rw [wu64_id (by omega) (by omega)]
  exact rput_ok FF x 2 (by decide) (by decide) (by omega) (by omega)
theorem put1 {x : Int} (h : 0 ≤ x ∧ x < 256 ^ 1) : wirelessref23_Put FF (wu64 x) 1 = some (leb 1 x) := by
  simp only [p1] at h
  rw [wu64_id (by omega) (by omega)]
  exact rput_ok FF x 1 (by decide) (by decide) (by omega) (by omega)
theorem ref_body (s : T_api_Signal) (h : Fit s) (hk : (usesOf s.Kind).Known = true) : wirelessref34_body FF s = some (bodyOf s) := by
  have ap : ∀ (l m : List Int), l.length ≤ 100 → m.length ≤ 100 → app 1 l m = some (l ++ m) := fun l m h1 h2 => app_cat (by omega)
  unfold wirelessref34_body
  rw [fields_ok]
  simp only [Option.bind_some]
  obtain ⟨k, id, p, so, de, mt, mp, cr, re, ⟨u1, u2, u3, u4, u5⟩⟩ := s
  rcases kinds k with rfl | rfl | rfl | rfl | rfl | rfl | rfl | rfl | hk'
  · have e1 := put2 (h (2, re) (by simp [valsOf]))
    simp [usesOf, wirelessref34_body_j1, wirelessref34_body_j2, wirelessref34_body_j3, wirelessref34_body_j4, wirelessref34_body_j5, wirelessref34_body_j6, wirelessref34_body_j7, e1, ap, leb_length, bodyOf, valsOf]
  · have e1 := put2 (h (2, so) (by simp [valsOf]))
    have e2 := put2 (h (2, de) (by simp [valsOf]))
    simp [usesOf, wirelessref34_body_j1, wirelessref34_body_j2, wirelessref34_body_j3, wirelessref34_body_j4, wirelessref34_body_j5, wirelessref34_body_j6, wirelessref34_body_j7, e1, e2, ap, leb_length, bodyOf, valsOf]
  · have e1 := put2 (h (2, so) (by simp [valsOf]))
    have e2 := put2 (h (2, de) (by simp [valsOf]))
    simp [usesOf, wirelessref34_body_j1, wirelessref34_body_j2, wirelessref34_body_j3, wirelessref34_body_j4, wirelessref34_body_j5, wirelessref34_body_j6, wirelessref34_body_j7, e1, e2, ap, leb_length, bodyOf, valsOf]
  · have e1 := put1 (h (1, u1) (by simp [valsOf]))
    have e2 := put2 (h (2, u2) (by simp [valsOf]))
    have e3 := put2 (h (2, u3) (by simp [valsOf]))
    have e4 := put2 (h (2, u4) (by simp [valsOf]))
    have e5 := put2 (h (2, u5) (by simp [valsOf]))
    simp [usesOf, wirelessref34_body_j1, wirelessref34_body_j2, wirelessref34_body_j3, wirelessref34_body_j4, wirelessref34_body_j5, wirelessref34_body_j6, wirelessref34_body_j7, wirelessref26_PutUpdate, e1, e2, e3, e4, e5, ap, leb_length, bodyOf, valsOf]
  · have e1 := put2 (h (2, re) (by simp [valsOf]))
    simp [usesOf, wirelessref34_body_j1, wirelessref34_body_j2, wirelessref34_body_j3, wirelessref34_body_j4, wirelessref34_body_j5, wirelessref34_body_j6, wirelessref34_body_j7, e1, ap, leb_length, bodyOf, valsOf]
  · have e1 := put2 (h (2, p) (by simp [valsOf]))
    have e2 := put2 (h (2, so) (by simp [valsOf]))
    have e3 := put2 (h (2, mt) (by simp [valsOf]))
    have e4 := put2 (h (2, mp) (by simp [valsOf]))
    have e5 := put2 (h (2, cr) (by simp [valsOf]))
    simp [usesOf, wirelessref34_body_j1, wirelessref34_body_j2, wirelessref34_body_j3, wirelessref34_body_j4, wirelessref34_body_j5, wirelessref34_body_j6, wirelessref34_body_j7, e1, e2, e3, e4, e5, ap, leb_length, bodyOf, valsOf]
  · have e1 := put2 (h (2, so) (by simp [valsOf]))
    have e2 := put2 (h (2, mt) (by simp [valsOf]))
    have e3 := put2 (h (2, mp) (by simp [valsOf]))
    have e4 := put2 (h (2, cr) (by simp [valsOf]))
    have e5 := put2 (h (2, re) (by simp [valsOf]))
    simp [usesOf, wirelessref34_body_j1, wirelessref34_body_j2, wirelessref34_body_j3, wirelessref34_body_j4, wirelessref34_body_j5, wirelessref34_body_j6, wirelessref34_body_j7, e1, e2, e3, e4, e5, ap, leb_length, bodyOf, valsOf]
  · have e1 := put2 (h (2, so) (by simp [valsOf]))
    have e2 := put2 (h (2, cr) (by simp [valsOf]))
    simp [usesOf, wirelessref34_body_j1, wirelessref34_body_j2, wirelessref34_body_j3, wirelessref34_body_j4, wirelessref34_body_j5, wirelessref34_body_j6, wirelessref34_body_j7, e1, e2, ap, leb_length, bodyOf, valsOf]
  · obtain ⟨g1, g2, g3, g4, g5, g6, g7, g8⟩ := hk'
    simp [usesOf, g1, g2, g3, g4, g5, g6, g7, g8] at hk
theorem ref_enc (s : T_api_Signal) (hp : 0 ≤ s.PSM ∧ s.PSM ≤ 65535) : wirelessref34_Encode FF s = some (encSpec s) := by
  unfold wirelessref34_Encode encSpec
  rw [ref_check]
  simp only [Option.bind_some]
  by_cases h : chk s = 0
  · have hf := fit_ok h hp
    rw [if_neg (by simp [h]), if_pos h, ref_body s hf (chk_zero h).1]
    simp only [Option.bind_some]
    have hb := body_len s
    rw [app_cat (by simp; omega)]
    rfl
  · rw [if_pos (by simpa using h), if_neg h]
theorem encodes_law (s : T_api_Signal) (hp : 0 ≤ s.PSM ∧ s.PSM ≤ 65535) : wirelesslaw34_SignalEncodes FF s = some true := by
  unfold wirelesslaw34_SignalEncodes
  rw [sig_enc s hp, ref_enc s hp]
  simp [same_refl, ex_holds]
end V
end Go.Proofs.Ytndnilndhmalfaa
