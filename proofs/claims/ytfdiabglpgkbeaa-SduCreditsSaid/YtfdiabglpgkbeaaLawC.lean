/-
  What the functions of an end compute.
-/
import Derived.Test.YtfdiabglpgkbeaaLawB
namespace Go.Proofs.Ytfdiabglpgkbeaa
namespace V
def fm (s : List Int) : List Int := [(s.length : Int) % 256, (s.length : Int) / 256] ++ s
theorem sdu_form_ok (F : Nat) (s : List Int) (hF : 5 < F) (hs : s.length ≤ 4096) : sdu_form F s = some (fm s) := by
  unfold sdu_form fm
  have e1 : shrp (len s) 8 = (s.length : Int) / 256 := by
    unfold shrp
    rw [len_nat, show (2 : Int) ^ 8 = 256 by decide, Int.fdiv_eq_ediv_of_nonneg _ (by omega)]
  have e2 : wu8 (len s) = (s.length : Int) % 256 := rfl
  have e3 : wu8 ((s.length : Int) / 256) = (s.length : Int) / 256 := wu8_id (by omega) (by omega)
  rw [e1, e2, e3, join_ok F _ (by simp; omega) (by simp) (by simp; omega)]
  simp
theorem fm_length (s : List Int) : (fm s).length = s.length + 2 := by simp [fm]
/-- The frame that is next, and the end behind it. -/
def partOf (c : T_api_Channel) (s : List Int) : List Int := ((fm s).drop c.Sent.toNat).take c.PeerMPS.toNat
def nxt (c : T_api_Channel) (s : List Int) (r : List (List Int)) : T_api_Channel :=
  if c.Sent + c.PeerMPS ≥ s.length + 2 then { c with TxCredits := c.TxCredits - 1, Out := r, Sent := 0 } else { c with TxCredits := c.TxCredits - 1, Sent := c.Sent + c.PeerMPS }
theorem sdu_step (F : Nat) (c : T_api_Channel) (l : List (List Int)) (s : List Int) (r : List (List Int)) (hF : 5 < F) (hl : l.length ≤ 1000000) (h : Ok c) (ho : c.Out = s :: r) (ht : c.TxCredits > 0) :
    sdu_Output_1 F c l = some (nxt c s r, l ++ [partOf c s]) := by
  have hsl := h.short s (by rw [ho]; simp)
  have hp := h.pmtu
  have hm := h.pmps
  have hse := h.sent
  have htx := h.tx
  rw [show lastOf c = 1 + s.length by unfold lastOf; rw [ho]] at hse
  unfold sdu_Output_1
  have hL : len (fm s) = s.length + 2 := by rw [len_nat, fm_length]; omega
  have e1 : imax 0 (imin c.Sent (len (fm s))) = c.Sent := by unfold imax imin; rw [hL]; split <;> split <;> omega
  have e2 : w64 (len (fm s) - c.Sent) = s.length + 2 - c.Sent := by rw [hL, w64_small (by omega) (by omega)]
  have e3 : imax 1 (imin c.PeerMPS (s.length + 2 - c.Sent)) = min c.PeerMPS (s.length + 2 - c.Sent) := by unfold imax imin; split <;> split <;> omega
  have e4 : imin (min c.PeerMPS (s.length + 2 - c.Sent)) (s.length + 2 - c.Sent) = ((min c.PeerMPS (s.length + 2 - c.Sent)).toNat : Int) := by unfold imin; split <;> omega
  have e5 : w64 (c.Sent + min c.PeerMPS (s.length + 2 - c.Sent)) = c.Sent + min c.PeerMPS (s.length + 2 - c.Sent) := w64_small (by omega) (by omega)
  have e6 : w64 (c.TxCredits - 1) = c.TxCredits - 1 := w64_small (by omega) (by omega)
  have e7 : sub (fm s) c.Sent (len (fm s)) = some ((fm s).drop c.Sent.toNat) := by
    have := sub_nat (fm s) c.Sent.toNat (fm s).length (by rw [fm_length]; omega) (by omega)
    rw [List.take_length, show ((c.Sent.toNat : Nat) : Int) = c.Sent by omega] at this
    exact this
  have e8 : cpy (List.replicate (min c.PeerMPS (s.length + 2 - c.Sent)).toNat 0) ((fm s).drop c.Sent.toNat) = partOf c s := by
    unfold cpy partOf
    have hd : (List.replicate (min c.PeerMPS (s.length + 2 - c.Sent)).toNat (0 : Int)).drop ((fm s).drop c.Sent.toNat).length = [] := List.drop_of_length_le (by rw [List.length_replicate, List.length_drop, fm_length]; omega)
    rw [hd, List.length_replicate, List.append_nil]
    by_cases hc : c.PeerMPS ≤ s.length + 2 - c.Sent
    · rw [show (min c.PeerMPS (s.length + 2 - c.Sent)).toNat = c.PeerMPS.toNat by omega]
    · rw [List.take_of_length_le (by rw [List.length_drop, fm_length]; omega), List.take_of_length_le (by rw [List.length_drop, fm_length]; omega)]
  rw [show idx c.Out 0 = some s by rw [ho]; rfl, Option.bind_some, sdu_form_ok F s hF (by omega), Option.bind_some]
  simp only [e1, e2, e3]
  rw [e4, mk_small (by omega) (by omega), Option.bind_some, e7, Option.bind_some, e8, app_small (by simp; omega) (by omega), Option.bind_some, e5, e6, hL]
  unfold nxt
  by_cases hc : c.Sent + c.PeerMPS ≥ s.length + 2
  · have hsub : sub c.Out 1 (len c.Out) = some r := by
      have := sub_nat c.Out 1 c.Out.length (by rw [ho]; simp) (by omega)
      rw [List.take_length, ho] at this
      rw [ho]
      exact this
    rw [if_pos (by simp; omega), hsub, Option.bind_some, if_pos hc]
  · rw [if_neg (by simp; omega), if_neg hc, show c.Sent + min c.PeerMPS (s.length + 2 - c.Sent) = c.Sent + c.PeerMPS by omega]
theorem nxt_ok {c : T_api_Channel} {s : List Int} {r : List (List Int)} (h : Ok c) (hs : Sm c) (ho : c.Out = s :: r) (ht : c.TxCredits > 0) : Ok (nxt c s r) ∧ Sm (nxt c s r) ∧ (nxt c s r).TxCredits = c.TxCredits - 1 := by
  obtain ⟨a1, a2, b1, b2, b3, b4, b5, b6, b7, a4, a5, c1, c2, c3⟩ := h
  obtain ⟨s1, s2, s3⟩ := hs
  rw [show lastOf c = 1 + s.length by unfold lastOf; rw [ho]] at c1
  rw [ho] at a4 a5 s1 s2
  simp only [List.length_cons] at a4 s1
  unfold nxt
  by_cases hc : c.Sent + c.PeerMPS ≥ s.length + 2
  · rw [if_pos hc]
    refine ⟨⟨a1, a2, b1, b2, b3, b4, by simp only; omega, b6, b7, by simp only; omega, fun x hx => a5 x (List.mem_cons_of_mem _ hx), ?_, c2, c3⟩, ⟨by simp only; omega, fun x hx => s2 x (List.mem_cons_of_mem _ hx), s3⟩, rfl⟩
    unfold lastOf
    simp only
    cases r with
    | nil => simp
    | cons y r => simp only; omega
  · rw [if_neg hc]
    refine ⟨⟨a1, a2, b1, b2, b3, b4, by simp only; omega, b6, b7, by simp only [ho, List.length_cons]; omega, by simp only [ho]; exact a5, ?_, c2, c3⟩, ⟨by simp only [ho, List.length_cons]; omega, by simp only [ho]; exact s2, s3⟩, rfl⟩
    unfold lastOf
    simp only [ho]
    omega
def Byte (n : Int) : Prop := 0 ≤ n ∧ n ≤ 255
theorem bits_two (a b : Int) (ha : Byte a) (hb : Byte b) : ior .i64 a (b * 256) = a + 256 * b := by
  obtain ⟨a, rfl⟩ := Int.eq_ofNat_of_zero_le ha.1
  obtain ⟨b, rfl⟩ := Int.eq_ofNat_of_zero_le hb.1
  have h1 := ha.2
  have h2 := hb.2
  unfold ior
  rw [show ((b : Int) * 256) = ((b * 256 : Nat) : Int) by omega]
  rw [BitVec.ofInt_natCast, BitVec.ofInt_natCast, BitVec.toNat_or, BitVec.toNat_ofNat, BitVec.toNat_ofNat]
  rw [Nat.mod_eq_of_lt (show a < 2 ^ IntKind.i64.bits by simp [IntKind.bits]; omega), Nat.mod_eq_of_lt (show b * 256 < 2 ^ IntKind.i64.bits by simp [IntKind.bits]; omega)]
  rw [Nat.or_comm, show b * 256 = b <<< 8 by rw [Nat.shiftLeft_eq], ← Nat.shiftLeft_add_eq_or_of_lt (by omega), wrap_i64, Nat.shiftLeft_eq, w64_small (by omega) (by omega)]
  omega
theorem shl8 {y : Int} (hy : Byte y) : shlp .i64 (w64 y) 8 = y * 256 := by
  unfold Byte at hy
  unfold shlp
  rw [wrap_i64, w64_small (x := y) (by omega) (by omega), show (2 : Int) ^ 8 = 256 by decide, w64_small (by omega) (by omega)]
/-- The last step of an input: the SDU grows, or is whole. -/
def grown (c : T_api_Channel) (part : List Int) (want : Int) : T_api_Channel × List (List Int) × Int :=
  if len (c.In ++ part) < want then ({ c with RxCredits := w64 (c.RxCredits - 1), In := c.In ++ part, Want := want }, [], 0)
  else ({ c with RxCredits := w64 (c.RxCredits - 1), In := [], Want := (-1) }, [c.In ++ part], 0)
theorem grown_ok {c : T_api_Channel} {part : List Int} {want : Int} (hs : Sm c) (h : Ok c) (hr : c.RxCredits ≠ 0) (h0 : 0 ≤ want) (h1 : want ≤ c.MTU) : Ok (grown c part want).1 ∧ Sm (grown c part want).1 ∧ (grown c part want).2.1.length ≤ 1 := by
  obtain ⟨a1, a2, b1, b2, b3, b4, b5, b6, b7, a4, a5, c1, c2, c3⟩ := h
  have e : w64 (c.RxCredits - 1) = c.RxCredits - 1 := w64_small (by omega) (by omega)
  unfold grown
  rw [e]
  by_cases hl : len (c.In ++ part) < want
  · rw [if_pos hl]
    have hl' : ((c.In ++ part).length : Int) < want := hl
    refine ⟨⟨a1, a2, b1, b2, b3, b4, b5, ?_, b7, a4, a5, c1, ?_, ?_⟩, ⟨hs.out, hs.each, ?_⟩, by simp⟩
    · show 0 ≤ c.RxCredits - 1 ∧ c.RxCredits - 1 ≤ 65535; omega
    · show -1 ≤ want ∧ want ≤ c.MTU; omega
    · refine ⟨fun (hw : want = -1) => by omega, fun _ => hl'⟩
    · show (c.In ++ part).length ≤ 1000000; omega
  · rw [if_neg hl]
    refine ⟨⟨a1, a2, b1, b2, b3, b4, b5, ?_, b7, a4, a5, c1, ?_, ?_⟩, ⟨hs.out, hs.each, by simp⟩, by simp⟩
    · show 0 ≤ c.RxCredits - 1 ∧ c.RxCredits - 1 ≤ 65535; omega
    · show -1 ≤ (-1 : Int) ∧ (-1 : Int) ≤ c.MTU; omega
    · exact ⟨fun _ => rfl, fun (hw : (-1 : Int) ≥ 0) => by omega⟩
theorem sdu_grown (F : Nat) (c : T_api_Channel) (part : List Int) (want : Int) (hF : 5000 < F) (hs : Sm c) (hp : part.length ≤ 1000000) : ((octets_Join F [c.In, part]).bind fun x_32 =>
      if (decide ((len x_32) < want)) = true then
        some ({ c with RxCredits := w64 (c.RxCredits - 1), In := x_32, Want := want }, [], 0)
      else
        some ({ c with RxCredits := w64 (c.RxCredits - 1), In := [], Want := (-1) }, [x_32], 0)) = some (grown c part want) := by
  have := hs.inn
  rw [join_ok F _ (by simp; omega) (by simp) (by simp; omega)]
  simp only [Option.bind_some, decide_eq_true_eq, List.flatten_cons, List.flatten_nil, List.append_nil]
  exact ite_some _ _ _
/-- What a frame brings: bytes, length, error. -/
def tkn (c : T_api_Channel) (b : List Int) : List Int × Int × Int :=
  if c.RxCredits = 0 then ([], 0, 19) else if len b > c.MPS then ([], 0, 4)
  else if c.Want = -1 then (match b with
    | x :: y :: r => if x + 256 * y > c.MTU ∨ (r.length : Int) > x + 256 * y then ([], 0, 4) else (r, x + 256 * y, 0)
    | _ => ([], 0, 3))
  else if len b = 0 then ([], 0, 3) else if len c.In + len b > c.Want then ([], 0, 4) else (b, c.Want, 0)
theorem sub_two (x y : Int) (r : List Int) : sub (x :: y :: r) 2 (len (x :: y :: r)) = some r := by
  have := sub_nat (x :: y :: r) 2 (x :: y :: r).length (by simp) (by simp)
  rw [List.take_length] at this
  exact this
theorem w64_two (x y : Int) (r : List Int) (h : r.length ≤ 65536) : w64 (len (x :: y :: r) - 2) = r.length := by
  rw [len_nat, List.length_cons, List.length_cons, w64_small (by omega) (by omega)]
  omega
theorem taken_ok (F : Nat) (c : T_api_Channel) (b : List Int) (hs : Sm c) (hb : b.length ≤ 65536) (hB : ∀ x ∈ b, Byte x) (h : Ok c) : sdu_taken F c b = some (tkn c b) := by
  unfold sdu_taken tkn
  have hrx := h.rx
  have hlb := len_nat b
  have hli := len_nat c.In
  have hin := hs.inn
  by_cases h2 : c.RxCredits = 0
  · rw [if_pos (by simp [h2]), if_pos h2]
  rw [if_neg (by simp; omega), if_neg h2]
  by_cases h3 : len b > c.MPS
  · rw [if_pos (by simpa using h3), if_pos h3]
  rw [if_neg (by simpa using h3), if_neg h3]
  by_cases h4 : c.Want = -1
  · rw [if_neg (by simpa using h4), if_pos h4]
    match b, hB, hb with
    | [], _, _ => rfl
    | [x], _, _ => rfl
    | x :: y :: r, hB, hb =>
      have hx := hB x (by simp)
      have hy := hB y (by simp)
      have hr : r.length ≤ 65536 := by simp at hb; omega
      rw [if_neg (c := decide (len (x :: y :: r) < 2) = true) (by rw [decide_eq_true_eq, len_nat, List.length_cons, List.length_cons]; omega), show idx (x :: y :: r) 0 = some x from rfl, show idx (x :: y :: r) 1 = some y from rfl, Option.bind_some, Option.bind_some, shl8 hy]
      have hx' : w64 x = x := w64_small (by have := hx.1; omega) (by have := hx.2; omega)
      rw [hx', bits_two x y hx hy]
      unfold sdu_taken_j2
      rw [w64_two x y r hr, sub_two, Option.bind_some]
      by_cases h6 : x + 256 * y > c.MTU ∨ (r.length : Int) > x + 256 * y
      · rw [if_pos (by simp; omega)]; simp only [if_pos h6]
      · rw [if_neg (by simp; omega)]; simp only [if_neg h6]
  · rw [if_pos (by simpa using h4), if_neg h4]
    by_cases h5 : len b = 0
    · rw [if_pos (by simpa using h5), if_pos h5]
    rw [if_neg (by simpa using h5), if_neg h5, w64_small (x := len c.In + len b) (by omega) (by omega)]
    by_cases h6 : len c.In + len b > c.Want
    · rw [if_pos (by simpa using h6), if_pos h6]
    · rw [if_neg (by simpa using h6), if_neg h6]; rfl
end V
end Go.Proofs.Ytfdiabglpgkbeaa
