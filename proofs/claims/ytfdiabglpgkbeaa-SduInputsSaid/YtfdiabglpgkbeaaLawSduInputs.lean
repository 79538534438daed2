/-
  SduInputs: the law.
-/
import Derived.Test.YtfdiabglpgkbeaaLawB
namespace Go.Proofs.Ytfdiabglpgkbeaa
namespace V
def Byte (n : Int) : Prop := 0 ≤ n ∧ n ≤ 255
theorem bits_two (a b : Int) (ha : Byte a) (hb : Byte b) : ior .i64 a (b * 256) = a + 256 * b := by
  obtain ⟨a, rfl⟩ := Int.eq_ofNat_of_zero_le ha.1
  obtain ⟨b, rfl⟩ := Int.eq_ofNat_of_zero_le hb.1
  have h1 := ha.2
  have h2 := hb.2
  unfold ior
  rw [show ((b : Int) * 256) = ((b * 256 : Nat) : Int) by omega]
  rw [BitVec.ofInt_natCast, BitVec.ofInt_natCast, BitVec.toNat_or, BitVec.toNat_ofNat, BitVec.toNat_ofNat]
  rw [Nat.mod_eq_of_lt (show a < 2 ^ IntKind.i64.bits by simp [IntKind.bits]; omega), Nat.mod_eq_of_lt (show b * 256 < 2 ^ IntKind.i64.bits by simp [IntKind.bits]; omega)]
  rw [Nat.or_comm, show b * 256 = b <<< 8 by rw [Nat.shiftLeft_eq], ← Nat.shiftLeft_add_eq_or_of_lt (by omega), wrap_i64, Nat.shiftLeft_eq, w64_small (by omega) (by omega)]
  omega
theorem two_eight : (2 : Int) ^ (min (Int.toNat 8) IntKind.i64.bits) = 256 := by decide
theorem shl8 {y : Int} (hy : Byte y) : ishl .i64 (w64 y) 8 = some (y * 256) := by
  unfold Byte at hy
  unfold ishl
  rw [if_neg (by decide), wrap_i64, w64_small (x := y) (by omega) (by omega), two_eight, w64_small (by omega) (by omega)]
theorem num_two (F : Nat) (b : List Int) (x y : Int) (r : List Int) (hF : 5 < F) (hb : b = x :: y :: r) (hx : Byte x) (hy : Byte y) : wirelessref23_Num F b 0 2 = some (x + 256 * y) := by
  obtain ⟨F, rfl⟩ : ∃ G, F = G + 3 := ⟨F - 3, by omega⟩
  unfold Byte at hx hy
  subst hb
  unfold wirelessref23_Num wirelessref23_Num_j1
  generalize hG : F + 3 = G
  have e1 : iter (fun s : Int × Int => wirelessref23_Num_l10 G (x :: y :: r) 0 s.1 s.2) (F + 3) (0, 1) = some (x + 256 * y) := by
    rw [iter_step (s' := (y, 0)) (by
      show wirelessref23_Num_l10 G _ 0 0 1 = _
      unfold wirelessref23_Num_l10
      rw [if_pos (by decide)]
      show (some y).bind _ = _
      simp only [Option.bind_some]
      congr 2
      simp only [Prod.mk.injEq]
      refine ⟨?_, by decide⟩
      rw [wu64_id (x := y) (by omega) (by omega), wu64_id (x := 0 * 256) (by omega) (by omega), wu64_id (by omega) (by omega)]
      omega)]
    rw [iter_step (s' := (x + 256 * y, -1)) (by
      show wirelessref23_Num_l10 G _ 0 y 0 = _
      unfold wirelessref23_Num_l10
      rw [if_pos (by decide)]
      show (some x).bind _ = _
      simp only [Option.bind_some]
      congr 2
      simp only [Prod.mk.injEq]
      refine ⟨?_, by decide⟩
      rw [wu64_id (x := x) (by omega) (by omega), wu64_id (x := y * 256) (by omega) (by omega), wu64_id (by omega) (by omega)]
      omega)]
    exact iter_stop (by
      show wirelessref23_Num_l10 G _ 0 _ (-1) = _
      unfold wirelessref23_Num_l10
      rw [if_neg (by decide)])
  rw [show w64 (2 - 1) = 1 by decide, ← hG, ← hG] at *
  rw [e1]
  rfl
/-- The last step of an input: the SDU grows, or is whole. -/
def grown (c : T_api_Channel) (part : List Int) (want : Int) : T_api_Channel × List (List Int) × Int :=
  if len (c.In ++ part) < want then ({ c with RxCredits := w64 (c.RxCredits - 1), In := c.In ++ part, Want := want }, [], 0)
  else ({ c with RxCredits := w64 (c.RxCredits - 1), In := [], Want := (-1) }, [c.In ++ part], 0)
theorem grown_ok {c : T_api_Channel} {part : List Int} {want : Int} (hs : Sm c) (h : Ok c) (hr : c.RxCredits ≠ 0) (h0 : 0 ≤ want) (h1 : want ≤ c.MTU) : Ok (grown c part want).1 ∧ Sm (grown c part want).1 ∧ (grown c part want).2.1.length ≤ 1 := by
  obtain ⟨a1, a2, b1, b2, b3, b4, b5, b6, b7, a4, a5, c1, c2, c3⟩ := h
  have e : w64 (c.RxCredits - 1) = c.RxCredits - 1 := w64_small (by omega) (by omega)
  unfold grown
  rw [e]
  by_cases hl : len (c.In ++ part) < want
  · rw [if_pos hl]
    have hl' : ((c.In ++ part).length : Int) < want := hl
    refine ⟨⟨a1, a2, b1, b2, b3, b4, b5, ?_, b7, a4, a5, c1, ?_, ?_⟩, ⟨hs.out, hs.each, ?_⟩, by simp⟩
    · show 0 ≤ c.RxCredits - 1 ∧ c.RxCredits - 1 ≤ 65535; omega
    · show -1 ≤ want ∧ want ≤ c.MTU; omega
    · refine ⟨fun (hw : want = -1) => by omega, fun _ => hl'⟩
    · show (c.In ++ part).length ≤ 1000000; omega
  · rw [if_neg hl]
    refine ⟨⟨a1, a2, b1, b2, b3, b4, b5, ?_, b7, a4, a5, c1, ?_, ?_⟩, ⟨hs.out, hs.each, by simp⟩, by simp⟩
    · show 0 ≤ c.RxCredits - 1 ∧ c.RxCredits - 1 ≤ 65535; omega
    · show -1 ≤ (-1 : Int) ∧ (-1 : Int) ≤ c.MTU; omega
    · exact ⟨fun _ => rfl, fun (hw : (-1 : Int) ≥ 0) => by omega⟩
theorem ref_grown (F : Nat) (c : T_api_Channel) (part : List Int) (want : Int) (hs : Sm c) (hp : part.length ≤ 1000000) : wirelessref33_Input_j1 F c part want = some (grown c part want) := by
  unfold wirelessref33_Input_j1 grown
  have := hs.inn
  rw [app_small (l := ([] : List Int)) (by simp; omega) (by omega)]
  simp only [Option.bind_some, List.nil_append]
  rw [app_small (by omega) (by omega)]
  simp only [Option.bind_some, decide_eq_true_eq]
  exact ite_some _ _ _
theorem sdu_grown (F : Nat) (c : T_api_Channel) (part : List Int) (want : Int) (hF : 5000 < F) (hs : Sm c) (hp : part.length ≤ 1000000) : ((octets_Join F [c.In, part]).bind fun x_32 =>
      if (decide ((len x_32) < want)) = true then
        some ({ c with RxCredits := w64 (c.RxCredits - 1), In := x_32, Want := want }, [], 0)
      else
        some ({ c with RxCredits := w64 (c.RxCredits - 1), In := [], Want := (-1) }, [x_32], 0)) = some (grown c part want) := by
  have := hs.inn
  rw [join_ok F _ (by simp; omega) (by simp) (by simp; omega)]
  simp only [Option.bind_some, decide_eq_true_eq, List.flatten_cons, List.flatten_nil, List.append_nil]
  exact ite_some _ _ _
/-- What a frame brings: bytes, length, error. -/
def tkn (c : T_api_Channel) (b : List Int) : List Int × Int × Int :=
  if c.RxCredits = 0 then ([], 0, 19) else if len b > c.MPS then ([], 0, 4)
  else if c.Want = -1 then (match b with
    | x :: y :: r => if x + 256 * y > c.MTU ∨ (r.length : Int) > x + 256 * y then ([], 0, 4) else (r, x + 256 * y, 0)
    | _ => ([], 0, 3))
  else if len b = 0 then ([], 0, 3) else if len c.In + len b > c.Want then ([], 0, 4) else (b, c.Want, 0)
theorem sub_two (x y : Int) (r : List Int) : sub (x :: y :: r) 2 (len (x :: y :: r)) = some r := by
  have := sub_nat (x :: y :: r) 2 (x :: y :: r).length (by simp) (by simp)
  rw [List.take_length] at this
  exact this
theorem w64_two (x y : Int) (r : List Int) (h : r.length ≤ 65536) : w64 (len (x :: y :: r) - 2) = r.length := by
  rw [len_nat, List.length_cons, List.length_cons, w64_small (by omega) (by omega)]
  omega
theorem taken_ok (F : Nat) (c : T_api_Channel) (b : List Int) (hs : Sm c) (hb : b.length ≤ 65536) (hB : ∀ x ∈ b, Byte x) (h : Ok c) : sdu_taken F c b = some (tkn c b) := by
  unfold sdu_taken tkn
  have hrx := h.rx
  have hlb := len_nat b
  have hli := len_nat c.In
  have hin := hs.inn
  by_cases h2 : c.RxCredits = 0
  · rw [if_pos (by simp [h2]), if_pos h2]
  rw [if_neg (by simp; omega), if_neg h2]
  by_cases h3 : len b > c.MPS
  · rw [if_pos (by simpa using h3), if_pos h3]
  rw [if_neg (by simpa using h3), if_neg h3]
  by_cases h4 : c.Want = -1
  · rw [if_neg (by simpa using h4), if_pos h4]
    match b, hB, hb with
    | [], _, _ => rfl
    | [x], _, _ => rfl
    | x :: y :: r, hB, hb =>
      have hx := hB x (by simp)
      have hy := hB y (by simp)
      have hr : r.length ≤ 65536 := by simp at hb; omega
      rw [if_neg (c := decide (len (x :: y :: r) < 2) = true) (by rw [decide_eq_true_eq, len_nat, List.length_cons, List.length_cons]; omega), show idx (x :: y :: r) 0 = some x from rfl, show idx (x :: y :: r) 1 = some y from rfl, Option.bind_some, Option.bind_some, shl8 hy, Option.bind_some]
      have hx' : w64 x = x := w64_small (by have := hx.1; omega) (by have := hx.2; omega)
      rw [hx', bits_two x y hx hy]
      unfold sdu_taken_j2
      rw [w64_two x y r hr, sub_two, Option.bind_some]
      by_cases h6 : x + 256 * y > c.MTU ∨ (r.length : Int) > x + 256 * y
      · rw [if_pos (by simp; omega)]; simp only [if_pos h6]
      · rw [if_neg (by simp; omega)]; simp only [if_neg h6]
  · rw [if_pos (by simpa using h4), if_neg h4]
    by_cases h5 : len b = 0
    · rw [if_pos (by simpa using h5), if_pos h5]
    rw [if_neg (by simpa using h5), if_neg h5, w64_small (x := len c.In + len b) (by omega) (by omega)]
    by_cases h6 : len c.In + len b > c.Want
    · rw [if_pos (by simpa using h6), if_pos h6]
    · rw [if_neg (by simpa using h6), if_neg h6]; rfl
theorem fault_ok (F : Nat) (c : T_api_Channel) (b : List Int) (hF : 5 < F) (hs : Sm c) (hb : b.length ≤ 65536) (hB : ∀ x ∈ b, Byte x) : wirelessref33_fault F c b = some (tkn c b).2.2 := by
  unfold wirelessref33_fault tkn
  have hlb := len_nat b
  have hli := len_nat c.In
  have hin := hs.inn
  by_cases h2 : c.RxCredits = 0
  · rw [if_pos (by simp [h2]), if_pos h2]
  rw [if_neg (by simpa using h2), if_neg h2]
  by_cases h3 : len b > c.MPS
  · rw [if_pos (by simpa using h3), if_pos h3]
  rw [if_neg (by simpa using h3), if_neg h3]
  by_cases h4 : c.Want = -1
  · rw [if_pos (by simpa using h4), if_pos h4]
    match b, hB, hb with
    | [], _, _ => rfl
    | [x], _, _ => rfl
    | x :: y :: r, hB, hb =>
      have hx := hB x (by simp)
      have hy := hB y (by simp)
      have hr : r.length ≤ 65536 := by simp at hb; omega
      rw [if_neg (c := decide (len (x :: y :: r) < 2) = true) (by rw [decide_eq_true_eq, len_nat, List.length_cons, List.length_cons]; omega), num_two F _ x y r hF rfl hx hy, Option.bind_some, w64_two x y r hr]
      unfold Byte at hx hy
      rw [w64_small (x := x + 256 * y) (by omega) (by omega)]
      by_cases h6 : x + 256 * y > c.MTU ∨ (r.length : Int) > x + 256 * y
      · rw [if_pos (by simp; omega)]; simp only [if_pos h6]
      · rw [if_neg (by simp; omega)]; simp only [if_neg h6]
  · rw [if_neg (by simpa using h4), if_neg h4]
    by_cases h5 : len b = 0
    · rw [if_pos (by simpa using h5), if_pos h5]
    rw [if_neg (by simpa using h5), if_neg h5, w64_small (x := len c.In + len b) (by omega) (by omega)]
    by_cases h6 : len c.In + len b > c.Want
    · rw [if_pos (by simpa using h6), if_pos h6]
    · rw [if_neg (by simpa using h6), if_neg h6]
theorem input_both (F : Nat) (c : T_api_Channel) (b : List Int) (hF : 5000 < F) (hs : Sm c) (hb : b.length ≤ 65536) (hB : ∀ x ∈ b, Byte x) (h : Ok c) : ∃ r, sdu_Input F c b = some r ∧ wirelessref33_Input F c b = some r ∧ Ok r.1 ∧ Sm r.1 ∧ r.2.1.length ≤ 1 := by
  unfold sdu_Input wirelessref33_Input
  rw [copied_ok F c (by omega) hs, Option.bind_some, taken_ok F c b hs hb hB h, fault_ok F c b (by omega) hs hb hB, Option.bind_some, Option.bind_some]
  have hf : Ok { c with Failed := true } := by
    obtain ⟨a1, a2, b1, b2, b3, b4, b5, b6, b7, a4, a5, c1, c2, c3⟩ := h
    exact ⟨a1, a2, b1, b2, b3, b4, b5, b6, b7, a4, a5, c1, c2, c3⟩
  have hsf : Sm { c with Failed := true } := ⟨hs.out, hs.each, hs.inn⟩
  by_cases h1 : c.Failed = true
  · exact ⟨_, by rw [if_pos h1], by rw [if_pos h1], h, hs, by simp⟩
  rw [if_neg h1, if_neg h1]
  by_cases h0 : (tkn c b).2.2 = 0
  · rw [if_neg (by simpa using h0), if_neg (by simpa using h0)]
    have hrx : c.RxCredits ≠ 0 := fun e => by simp [tkn, e] at h0
    have hwant := h.want
    have key : (tkn c b).1.length ≤ 1000000 ∧ 0 ≤ (tkn c b).2.1 ∧ (tkn c b).2.1 ≤ c.MTU ∧ ((c.Want = -1 ∧ ∃ x y r, b = x :: y :: r ∧ Byte x ∧ Byte y ∧ tkn c b = (r, x + 256 * y, 0)) ∨ (c.Want ≠ -1 ∧ tkn c b = (b, c.Want, 0))) := by
      unfold tkn at h0 ⊢
      rw [if_neg hrx] at h0 ⊢
      by_cases h3 : len b > c.MPS
      · simp [if_pos h3] at h0
      rw [if_neg h3] at h0 ⊢
      by_cases h4 : c.Want = -1
      · rw [if_pos h4] at h0 ⊢
        match b, hB, hb, h0 with
        | [], _, _, h0 => simp at h0
        | [x], _, _, h0 => simp at h0
        | x :: y :: r, hB, hb, h0 =>
          have hx := hB x (by simp)
          have hy := hB y (by simp)
          by_cases h6 : x + 256 * y > c.MTU ∨ (r.length : Int) > x + 256 * y
          · simp [if_pos h6] at h0
          · simp only [if_neg h6]
            have hx' := hx
            have hy' := hy
            unfold Byte at hx' hy'
            refine ⟨by simp at hb; omega, by omega, by omega, .inl ⟨h4, x, y, r, rfl, hx, hy, rfl⟩⟩
      · rw [if_neg h4] at h0 ⊢
        by_cases h5 : len b = 0
        · simp [if_pos h5] at h0
        rw [if_neg h5] at h0 ⊢
        by_cases h6 : len c.In + len b > c.Want
        · simp [if_pos h6] at h0
        rw [if_neg h6]
        exact ⟨by simp only; omega, by simp only; omega, by simp only; omega, .inr ⟨h4, rfl⟩⟩
    obtain ⟨k1, k2, k3, k4⟩ := key
    refine ⟨grown c (tkn c b).1 (tkn c b).2.1, sdu_grown F c _ _ hF hs k1, ?_, grown_ok hs h hrx k2 k3⟩
    rcases k4 with ⟨h4, x, y, r, rfl, hx, hy, e⟩ | ⟨h4, e⟩
    · rw [if_pos (by simpa using h4), num_two F _ x y r (by omega) rfl hx hy, Option.bind_some, sub_two, Option.bind_some, e]
      rw [e] at k1
      unfold Byte at hx hy
      rw [w64_small (x := x + 256 * y) (by omega) (by omega)]
      exact ref_grown F c r _ hs k1
    · rw [if_neg (by simpa using h4), e]
      rw [e] at k1
      exact ref_grown F c b _ hs k1
  · rw [if_pos (by simpa using h0), if_pos (by simpa using h0)]
    exact ⟨_, rfl, rfl, hf, hsf, by simp⟩
/-- The bytes of what came in. -/
theorem inputs_law (c : T_api_Channel) (fr : List (List Int)) (h : GCh c) (hg : GAll (GAll (GInt .u8)) fr) : wirelesslaw33_SduInputs FF c fr = some true := by
  unfold wirelesslaw33_SduInputs
  obtain ⟨l, hl⟩ := light_ok FF c (by decide)
  have hG : GCh (T_api_Channel.mk 0 0 0 0 0 0 0 0 0 0 fr 0 [] 0 false) := by
    have h1 := hg.1
    unfold reachBytes at h1
    refine ⟨by simp only; omega, by simp, fun s hs => ?_⟩
    have h2 := (hg.2 s hs).1
    unfold reachBytes at h2
    omega
  obtain ⟨l2, hl2⟩ := light_ok FF (T_api_Channel.mk 0 0 0 0 0 0 0 0 0 0 fr 0 [] 0 false) (by decide)
  rw [hl, Option.bind_some, hl2, ex_holds, ref_check FF c (by decide) h]
  by_cases h1 : ¬ l = true
  · have : l = false := by simpa using h1
    subst this
    rfl
  have h1 : l = true := by simpa using h1
  subst h1
  by_cases h2 : ¬ l2 = true
  · have : l2 = false := by simpa using h2
    subst this
    rfl
  have h2 : l2 = true := by simpa using h2
  subst h2
  rw [Option.bind_some, Option.bind_some]
  by_cases h3 : ¬ chk c = 0
  · simp [h3]
  have h3 : chk c = 0 := by omega
  have hs := light_true FF c (by decide) h hl
  have hsf := light_true FF _ (by decide) hG hl2
  have hf1 : fr.length ≤ 1000 := hsf.out
  have hf2 := light_each FF _ (by decide) hG hl2
  obtain ⟨o, e1, rfl⟩ := iter_by (body := fun s : T_api_Channel × T_api_Channel × Int => wirelesslaw33_SduInputs_l66 FF fr s.1 s.2.1 s.2.2) (fun s => s.1 = s.2.1 ∧ Ok s.1 ∧ Sm s.1 ∧ 0 ≤ s.2.2 ∧ s.2.2 ≤ fr.length) (fun o => o = .inl ()) (fun s => (fr.length - s.2.2).toNat) (fun s hs' => by
    obtain ⟨c, d, i⟩ := s
    obtain ⟨h1, hok, hsm, h0, hle⟩ := hs'
    simp only at h1 hok hsm h0 hle
    subst h1
    show (∃ s', wirelesslaw33_SduInputs_l66 FF fr c c i = _ ∧ _) ∨ ∃ o, wirelesslaw33_SduInputs_l66 FF fr c c i = _ ∧ _
    unfold wirelesslaw33_SduInputs_l66 wirelesslaw33_SduInputs_j2 wirelesslaw33_SduInputs_j3
    have hn := len_nat fr
    by_cases hc : i < len fr
    · obtain ⟨y, hy, hy'⟩ := idx_lt (l := fr) h0 (by omega)
      have hm := List.mem_of_getElem? hy'
      obtain ⟨r, q1, q2, q3, q4, q5⟩ := input_both FF c y (by decide) hsm (hf2 y hm) (fun x hx => (hg.2 y hm).2 x hx) hok
      refine .inl ⟨(r.1, r.1, i + 1), ?_, ⟨rfl, q3, q4, by simp only; omega, by simp only; omega⟩, by simp only; omega⟩
      rw [if_pos (by simpa using hc)]
      simp only [hy, Option.bind_some, q1, q2, channel_ok FF r.1 (by decide) (by have := q4.out; omega), lists_ok FF r.2.1 (Nat.lt_of_le_of_lt q5 (by decide)) (by omega), ref_check FF r.1 (by decide) q4.gch, chk_ok.2 q3]
      rw [w64_small (by omega) (by omega)]
      simp
    · exact .inr ⟨_, by rw [if_neg (by simpa using hc)], rfl⟩) FF (c, c, 0) ⟨rfl, chk_ok.1 h3, hs, by simp, by simp⟩ (by
    have : 2000 < FF := by decide
    simp only
    omega)
  rw [e1, h3]
  simp [wirelesslaw33_SduInputs_j1, ex_holds]
end V
end Go.Proofs.Ytfdiabglpgkbeaa
