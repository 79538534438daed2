/-
  Frames: fed.
-/
import Derived.Test.YtpcckohcoajenaaLawB
namespace Go.Proofs.Ytpcckohcoajenaa
namespace V
def az : T_api_Assembler := ⟨false, []⟩
structure Val (a : T_api_Assembler) : Prop where
  off : a.On = false → a.Buffer = []
  on : a.On = true → a.Buffer ≠ []
  hdr : a.On = true → 4 ≤ a.Buffer.length → (hd a.Buffer).2 ≠ 0 ∧ (hd a.Buffer).1 ≤ 65531 ∧ (a.Buffer.length : Int) - 4 < (hd a.Buffer).1
  byt : ∀ x ∈ a.Buffer, Byte x
theorem Val.len {a : T_api_Assembler} (h : Val a) : a.Buffer.length ≤ 65535 := by
  cases ho : a.On with
  | false => rw [h.off ho]; simp
  | true =>
    rcases Nat.lt_or_ge a.Buffer.length 4 with h4 | h4
    · omega
    · have := h.hdr ho h4
      omega
theorem val_az : Val az := ⟨fun _ => rfl, (fun h => by cases h), (fun h => by cases h), fun x hx => by simp [az] at hx⟩
def fil (b : List Int) (e : Int) : T_api_Assembler × List T_api_Frame × Int :=
  if b.length < 4 then (⟨true, b⟩, [], e)
  else if (hd b).2 = 0 then (az, [], if e = 0 then 1 else e)
  else if 65531 < (hd b).1 ∨ (hd b).1 < (b.length : Int) - 4 then (az, [], if e = 0 then 4 else e)
  else if (b.length : Int) - 4 < (hd b).1 then (⟨true, b⟩, [], e)
  else (az, [⟨(hd b).2, b.drop 4⟩], e)
theorem fil_val {b : List Int} (hb : ∀ x ∈ b, Byte x) (hne : b ≠ []) (e : Int) : Val (fil b e).1 := by
  unfold fil
  split
  · rename_i h0
    exact ⟨(fun h => by cases h), fun _ => hne, (fun _ h => by simp only at h; omega), hb⟩
  · split
    · exact val_az
    · rename_i h1
      split
      · exact val_az
      · rename_i h2
        split
        · rename_i h3
          exact ⟨(fun h => by cases h), fun _ => hne, fun _ _ => ⟨h1, by simp only; omega, h3⟩, hb⟩
        · exact val_az
theorem fil_frames (b : List Int) (e : Int) : (fil b e).2.1.length ≤ 1 := by
  unfold fil
  (repeat' split) <;> simp
theorem filj_ok (e x : Int) : fragment_filled_j1 FF e x = some (az, [], if e = 0 then x else e) := by
  unfold fragment_filled_j1
  by_cases h : e = 0
  · rw [if_pos (show (e == 0) = true from by simpa using h), if_pos h]; rfl
  · rw [if_neg (show ¬ (e == 0) = true from by simpa using h), if_neg h]; rfl
theorem fil_ok {b : List Int} (hb : ∀ x ∈ b, Byte x) (hl : b.length ≤ 1000000) (e : Int) : fragment_filled FF b e = some (fil b e) := by
  unfold fragment_filled fil
  by_cases h0 : b.length < 4
  · rw [if_pos (dt (show len b < 4 from by rw [len_nat]; omega)), if_pos h0]
  rw [if_neg (df (show ¬ len b < 4 from by rw [len_nat]; omega)), if_neg h0, header_ok hb (by omega), Option.bind_some]
  have ew : w64 (len b - 4) = (b.length : Int) - 4 := w64_id (by rw [len_nat]; omega) (by rw [len_nat]; omega)
  rw [ew]
  by_cases h1 : (hd b).2 = 0
  · rw [if_pos (show ((hd b).2 == 0) = true from by simpa using h1), if_pos h1, filj_ok]
  rw [if_neg (show ¬ ((hd b).2 == 0) = true from by simpa using h1), if_neg h1]
  by_cases h2 : 65531 < (hd b).1 ∨ (hd b).1 < (b.length : Int) - 4
  · rw [if_pos (show (decide ((hd b).1 > 65531) || decide ((b.length : Int) - 4 > (hd b).1)) = true from by simpa using h2), if_pos h2, filj_ok]
  rw [if_neg (show ¬ (decide ((hd b).1 > 65531) || decide ((b.length : Int) - 4 > (hd b).1)) = true from by simpa using h2), if_neg h2]
  by_cases h3 : (b.length : Int) - 4 < (hd b).1
  · rw [if_pos (show decide ((b.length : Int) - 4 < (hd b).1) = true from by simpa using h3), if_pos h3]
  rw [if_neg (show ¬ decide ((b.length : Int) - 4 < (hd b).1) = true from by simpa using h3), if_neg h3, sub4 (by omega), Option.bind_some, join_one FF _ (by unfold FF; omega) (by simp; omega)]
  rfl
theorem rtj_ok (b : List Int) (e : Int) (x : Int × Int) (y : Int) (hy : y ≠ 0) : wirelessref32_taken_j1 FF b e x y = some (az, [], if e = 0 then y else e) := by
  unfold wirelessref32_taken_j1
  rw [if_pos (show (y != 0) = true from by simpa using hy)]
  by_cases h : e = 0
  · rw [if_neg (show ¬ (e != 0) = true from by simpa using h), if_pos h]; rfl
  · rw [if_pos (show (e != 0) = true from by simpa using h), if_neg h]; rfl
theorem taken_ok {b : List Int} (hb : ∀ x ∈ b, Byte x) (hl : b.length ≤ 1000000) (e : Int) : wirelessref32_taken FF b e = some (fil b e) := by
  unfold wirelessref32_taken fil
  by_cases h0 : b.length < 4
  · rw [if_pos (dt (show len b < 4 from by rw [len_nat]; omega)), if_pos h0]
  rw [if_neg (df (show ¬ len b < 4 from by rw [len_nat]; omega)), if_neg h0, rhead_ok hb (by omega), Option.bind_some]
  have ew : w64 (len b - 4) = (b.length : Int) - 4 := w64_id (by rw [len_nat]; omega) (by rw [len_nat]; omega)
  rw [ew]
  by_cases h1 : (hd b).2 = 0
  · rw [if_pos (show ((hd b).2 == 0) = true from by simpa using h1), if_pos h1, rtj_ok b e _ 1 (by decide)]
  rw [if_neg (show ¬ ((hd b).2 == 0) = true from by simpa using h1), if_neg h1]
  by_cases h2 : 65531 < (hd b).1 ∨ (hd b).1 < (b.length : Int) - 4
  · rw [if_pos (show (decide ((hd b).1 > 65531) || decide ((b.length : Int) - 4 > (hd b).1)) = true from by simpa using h2), if_pos h2, rtj_ok b e _ 4 (by decide)]
  rw [if_neg (show ¬ (decide ((hd b).1 > 65531) || decide ((b.length : Int) - 4 > (hd b).1)) = true from by simpa using h2), if_neg h2]
  unfold wirelessref32_taken_j1
  rw [if_neg (show ¬ ((0 : Int) != 0) = true from by decide), ew]
  by_cases h3 : (b.length : Int) - 4 < (hd b).1
  · rw [if_pos (show decide ((b.length : Int) - 4 < (hd b).1) = true from by simpa using h3), if_pos h3]
  rw [if_neg (show ¬ decide ((b.length : Int) - 4 < (hd b).1) = true from by simpa using h3), if_neg h3, sub4 (by omega), Option.bind_some]
  rfl
def feed (a : T_api_Assembler) (p : T_api_Packet) : T_api_Assembler × List T_api_Frame × Int :=
  if p.LLID = 1 ∧ p.Payload = [] then (a, [], 0)
  else if (p.LLID ≠ 1 ∧ p.LLID ≠ 2) ∨ p.Payload = [] then (a, [], 12)
  else if p.LLID = 2 then fil p.Payload (if a.On = true then 13 else 0)
  else if a.On = false then (az, [], 13)
  else fil (a.Buffer ++ p.Payload) 0
theorem len_zero (l : List Int) : (len l == 0) = decide (l = []) := by
  cases l with
  | nil => rfl
  | cons x r =>
    have h1 : (len (x :: r) == 0) = false := by
      rw [beq_eq_false_iff_ne, len_nat, List.length_cons]
      omega
    rw [h1]
    simp
theorem copied_ok {a : T_api_Assembler} (h : a.Buffer.length ≤ 140737488355328) : fragment_copied FF a = some a := by
  unfold fragment_copied fragment_copied_j1
  rw [join_one FF _ (by unfold FF; omega) h]
  rfl
theorem feed_ok {a : T_api_Assembler} {p : T_api_Packet} (ha : Val a) (hp : ∀ x ∈ p.Payload, Byte x) (hl : p.Payload.length ≤ 200000) : fragment_Feed FF a p = some (feed a p) := by
  have hal := ha.len
  have hc := copied_ok (a := a) (by omega)
  unfold fragment_Feed feed
  rw [len_zero p.Payload, len_zero a.Buffer]
  have hemp : ((!a.On) && decide (a.Buffer = [])) = !a.On := by
    cases ho : a.On with
    | false => simp [ha.off ho]
    | true => simp
  rw [hemp]
  by_cases h0 : p.LLID = 1 ∧ p.Payload = []
  · rw [if_pos (show ((p.LLID == 1) && decide (p.Payload = [])) = true from by simpa using h0), if_pos h0, hc]; rfl
  rw [if_neg (show ¬ ((p.LLID == 1) && decide (p.Payload = [])) = true from by simpa using h0), if_neg h0]
  by_cases h1 : (p.LLID ≠ 1 ∧ p.LLID ≠ 2) ∨ p.Payload = []
  · rw [if_pos (show (((p.LLID != 1) && (p.LLID != 2)) || decide (p.Payload = [])) = true from by simpa using h1), if_pos h1, hc]; rfl
  rw [if_neg (show ¬ (((p.LLID != 1) && (p.LLID != 2)) || decide (p.Payload = [])) = true from by simpa using h1), if_neg h1]
  have j1 : ∀ (x : Int) (b : List Int), (∀ x ∈ b, Byte x) → b.length ≤ 1000000 → fragment_Feed_j1 FF x b = some (fil b x) := fun x b hb hbl => by
    unfold fragment_Feed_j1
    rw [fil_ok hb hbl]
    rfl
  have j2 : ∀ x, fragment_Feed_j2 FF p x = some (fil p.Payload x) := fun x => by
    unfold fragment_Feed_j2
    rw [join_one FF _ (by unfold FF; omega) (by omega), Option.bind_some, j1 x _ hp (by omega)]
  by_cases h2 : p.LLID = 2
  · rw [if_pos (show (p.LLID == 2) = true from by simpa using h2), if_pos h2]
    cases ho : a.On with
    | false => rw [if_neg (by decide), j2]; rfl
    | true => rw [if_pos (by decide), j2]; rfl
  rw [if_neg (show ¬ (p.LLID == 2) = true from by simpa using h2), if_neg h2]
  cases ho : a.On with
  | false => rfl
  | true =>
    rw [if_neg (by decide), if_neg (by decide), join_two FF _ _ (by unfold FF; omega) (by omega), Option.bind_some, j1 0 _ (fun x hx => (List.mem_append.1 hx).elim (ha.byt x) (hp x)) (by simp; omega)]
theorem rfeed_ok {a : T_api_Assembler} {p : T_api_Packet} (ha : Val a) (hp : ∀ x ∈ p.Payload, Byte x) (hl : p.Payload.length ≤ 200000) : wirelessref32_Feed FF a p = some (feed a p) := by
  have hal := ha.len
  unfold wirelessref32_Feed feed wirelessref23_Blank
  rw [len_zero p.Payload, Option.bind_some]
  by_cases h0 : p.LLID = 1 ∧ p.Payload = []
  · rw [if_pos (show ((p.LLID == 1) && decide (p.Payload = [])) = true from by simpa using h0), if_pos h0]
  rw [if_neg (show ¬ ((p.LLID == 1) && decide (p.Payload = [])) = true from by simpa using h0), if_neg h0]
  by_cases h1 : (p.LLID ≠ 1 ∧ p.LLID ≠ 2) ∨ p.Payload = []
  · rw [if_pos (show (((p.LLID != 2) && (p.LLID != 1)) || decide (p.Payload = [])) = true from by rw [Bool.and_comm]; simpa using h1), if_pos h1]
  rw [if_neg (show ¬ (((p.LLID != 2) && (p.LLID != 1)) || decide (p.Payload = [])) = true from by rw [Bool.and_comm]; simpa using h1), if_neg h1]
  have j1 : ∀ (x : Int) (b : List Int), (∀ x ∈ b, Byte x) → b.length ≤ 1000000 → wirelessref32_Feed_j1 FF x b = some (fil b x) := fun x b hb hbl => by
    unfold wirelessref32_Feed_j1
    rw [taken_ok hb hbl]
    rfl
  have j2 : ∀ x, wirelessref32_Feed_j2 FF p x = some (fil p.Payload x) := fun x => by
    unfold wirelessref32_Feed_j2
    rw [app_cat (by simp; omega), Option.bind_some, List.nil_append, j1 x _ hp (by omega)]
  by_cases h2 : p.LLID = 2
  · rw [if_pos (show (p.LLID == 2) = true from by simpa using h2), if_pos h2]
    cases ho : a.On with
    | false => rw [if_neg (by decide), j2]; rfl
    | true => rw [if_pos (by decide), j2]; rfl
  rw [if_neg (show ¬ (p.LLID == 2) = true from by simpa using h2), if_neg h2]
  cases ho : a.On with
  | false => rfl
  | true =>
    rw [if_neg (by decide), if_neg (by decide), app_cat (by simp; omega), Option.bind_some, List.nil_append, app_cat (by omega), Option.bind_some, j1 0 _ (fun x hx => (List.mem_append.1 hx).elim (ha.byt x) (hp x)) (by simp; omega)]
theorem feed_val {a : T_api_Assembler} {p : T_api_Packet} (ha : Val a) (hp : ∀ x ∈ p.Payload, Byte x) : Val (feed a p).1 := by
  unfold feed
  split
  · exact ha
  · split
    · exact ha
    · rename_i h1
      have hne : p.Payload ≠ [] := fun h => h1 (.inr h)
      split
      · exact fil_val hp hne _
      · split
        · exact val_az
        · exact fil_val (fun x hx => (List.mem_append.1 hx).elim (ha.byt x) (hp x)) (by simp [hne]) _
theorem feed_frames (a : T_api_Assembler) (p : T_api_Packet) : (feed a p).2.1.length ≤ 1 := by
  unfold feed
  split
  · simp
  · split
    · simp
    · split
      · exact fil_frames _ _
      · split
        · simp
        · exact fil_frames _ _
theorem asm_refl (F : Nat) (a : T_api_Assembler) : wirelessref32_SameAssembler F a a = some true := by
  unfold wirelessref32_SameAssembler
  simp [same_refl]
/-- A list of packets as the laws ask for it. -/
structure POk (l : List T_api_Packet) : Prop where
  byt : ∀ p ∈ l, ∀ x ∈ p.Payload, Byte x
theorem light_ok (l : List T_api_Packet) : ∃ c, wirelesslaw32_light FF l = some c ∧ (c = true → l.length ≤ 200 ∧ ∀ p ∈ l, p.Payload.length ≤ 131072) := by
  unfold wirelesslaw32_light
  have hno := len_nat l
  obtain ⟨o, h1, hq⟩ := iter_by (body := fun s : Int × Int => wirelesslaw32_light_l1 FF l s.1 s.2) (fun s => 0 ≤ s.2 ∧ s.2 ≤ 200 ∧ s.2 ≤ l.length ∧ ∀ j : Nat, (j : Int) < s.2 → ∀ y, l[j]? = some y → y.Payload.length ≤ 131072)
    (fun o => o = .inr false ∨ ∃ x, o = .inl x ∧ (l.length ≤ 200 → ∀ (j : Nat) (y : T_api_Packet), l[j]? = some y → y.Payload.length ≤ 131072)) (fun s => (200 - s.2).toNat) (fun s hs => by
    obtain ⟨x, i⟩ := s
    obtain ⟨h0, h200, hle, hj⟩ := hs
    simp only at h0 h200 hle hj
    show (∃ s', wirelesslaw32_light_l1 FF l x i = _ ∧ _) ∨ ∃ o, wirelesslaw32_light_l1 FF l x i = _ ∧ _
    unfold wirelesslaw32_light_l1
    by_cases hc : i < len l ∧ i < 200
    · have hil : i < l.length := by omega
      obtain ⟨y, hy, hy'⟩ := idx_lt h0 hil
      have e1 : (decide (i < len l) && decide (i < 200)) = true := by rw [dt hc.1, dt hc.2]; rfl
      rw [if_pos e1, hy]
      simp only [Option.bind_some]
      by_cases hy2 : len y.Payload > 131072
      · exact .inr ⟨_, by rw [if_pos (dt hy2)], .inl rfl⟩
      · refine .inl ⟨_, by rw [if_neg (df hy2)], ?_⟩
        have hw : w64 (i + 1) = i + 1 := by rw [w64_id] <;> omega
        simp only [hw]
        refine ⟨⟨by omega, by omega, by omega, fun j hji y' hy'' => ?_⟩, by omega⟩
        by_cases e : (j : Int) < i
        · exact hj j e y' hy''
        · have : j = i.toNat := by omega
          subst this
          rw [hy'] at hy''
          injection hy'' with hy''
          subst hy''
          rw [len_nat] at hy2
          omega
    · refine .inr ⟨_, by rw [if_neg (show ¬ (decide (i < len l) && decide (i < 200)) = true from fun h => hc (by simpa using h))], .inr ⟨_, rfl, fun hl200 j y hy => ?_⟩⟩
      have hjl := (List.getElem?_eq_some_iff.1 hy).1
      by_cases e : (j : Int) < i
      · exact hj j e y hy
      · exfalso
        rcases Int.lt_or_le i (len l) with h | h
        · exact hc ⟨h, by omega⟩
        · omega) FF (0, 0) ⟨by simp, by simp, by simp, fun j hj => by simp only at hj; omega⟩ (by unfold FF; simp)
  rw [h1]
  rcases hq with rfl | ⟨x, rfl, hx⟩
  · exact ⟨false, rfl, fun h => by cases h⟩
  · refine ⟨_, rfl, fun h => ?_⟩
    simp only [Bool.and_eq_true] at h
    have h2 : len l ≤ 200 := of_decide_eq_true h.1
    refine ⟨by omega, fun p hp => ?_⟩
    obtain ⟨j, hj⟩ := List.getElem?_of_mem hp
    exact hx (by omega) j p hj
/-- An assembler handed in. -/
structure AOk (a : T_api_Assembler) : Prop where
  byt : ∀ x ∈ a.Buffer, Byte x
  len : a.Buffer.length ≤ 140737488355328
theorem valid_ok {a : T_api_Assembler} (h : AOk a) : ∃ c, wirelessref32_Valid FF a = some c ∧ (c = true → Val a) := by
  obtain ⟨hb, hl⟩ := h
  unfold wirelessref32_Valid
  rw [len_zero]
  cases ho : a.On with
  | false =>
    refine ⟨_, if_pos (by decide), fun h => ?_⟩
    have h := of_decide_eq_true h
    exact ⟨fun _ => h, (fun h1 => by rw [ho] at h1; cases h1), (fun h1 => by rw [ho] at h1; cases h1), hb⟩
  | true =>
    rw [if_neg (by decide)]
    by_cases h4 : len a.Buffer < 4
    · refine ⟨_, if_pos (dt h4), fun h => ?_⟩
      have h := of_decide_eq_true h
      have h5 := len_nat a.Buffer
      refine ⟨(fun h1 => by rw [ho] at h1; cases h1), fun _ hn => ?_, (fun _ h6 => by omega), hb⟩
      have h7 : a.Buffer.length = 0 := by rw [hn]; rfl
      omega
    · have h5 := len_nat a.Buffer
      rw [if_neg (df h4), rhead_ok hb (by omega), Option.bind_some]
      refine ⟨_, rfl, fun h => ?_⟩
      simp only [Bool.and_eq_true] at h
      obtain ⟨⟨h6, h7⟩, h8⟩ := h
      have h7 := of_decide_eq_true h7
      have h8 := of_decide_eq_true h8
      rw [w64_id (by omega) (by omega)] at h8
      refine ⟨(fun h1 => by rw [ho] at h1; cases h1), fun _ hn => ?_, fun _ _ => ⟨by simpa using h6, h7, by omega⟩, hb⟩
      have h9 : a.Buffer.length = 0 := by rw [hn]; rfl
      omega
theorem feeds_law (a : T_api_Assembler) (l : List T_api_Packet) (ha : AOk a) (hp : ∀ p ∈ l, ∀ x ∈ p.Payload, Byte x) : wirelesslaw32_FragmentFeeds FF a l = some true := by
  unfold wirelesslaw32_FragmentFeeds
  obtain ⟨c, h1, h2⟩ := light_ok l
  obtain ⟨v, h3, h4⟩ := valid_ok ha
  rw [h1, Option.bind_some, h3]
  cases c with
  | false =>
    rw [if_pos (by decide), Option.bind_some, if_pos rfl, example_ok]
    rfl
  | true =>
    rw [if_neg (by decide), Option.bind_some, Option.bind_some]
    cases v with
    | false =>
      rw [if_pos (by decide), example_ok]
      rfl
    | true =>
      rw [if_neg (by decide)]
      obtain ⟨hl, hpl⟩ := h2 rfl
      have hv := h4 rfl
      have hno := len_nat l
      obtain ⟨o, h5, hq⟩ := iter_by (body := fun s : T_api_Assembler × T_api_Assembler × Int => wirelesslaw32_FragmentFeeds_l1 FF l s.1 s.2.1 s.2.2) (fun s => s.1 = s.2.1 ∧ Val s.1 ∧ 0 ≤ s.2.2 ∧ s.2.2 ≤ l.length) (fun o => o = .inl ()) (fun s => (l.length - s.2.2).toNat) (fun s hs => by
        obtain ⟨x, y, i⟩ := s
        obtain ⟨e, hx, hi0, hi1⟩ := hs
        simp only at e hx hi0 hi1
        subst e
        show (∃ s', wirelesslaw32_FragmentFeeds_l1 FF l x x i = _ ∧ _) ∨ ∃ o, wirelesslaw32_FragmentFeeds_l1 FF l x x i = _ ∧ _
        unfold wirelesslaw32_FragmentFeeds_l1
        by_cases hc : i < len l
        · have hil : i < l.length := by omega
          obtain ⟨p, hy, hy'⟩ := idx_lt hi0 hil
          have hm := List.mem_of_getElem? hy'
          have hw : w64 (i + 1) = i + 1 := by rw [w64_id] <;> omega
          rw [if_pos (dt hc), hy, Option.bind_some, feed_ok hx (hp p hm) (by have := hpl p hm; omega), Option.bind_some]
          unfold wirelesslaw32_FragmentFeeds_j2
          rw [hy, Option.bind_some, rfeed_ok hx (hp p hm) (by have := hpl p hm; omega), Option.bind_some]
          unfold wirelesslaw32_FragmentFeeds_j3
          have hfr := feed_frames x p
          rw [asm_refl, Option.bind_some, if_neg (by decide), same_frames_refl FF _ (by unfold FF; omega) (by omega), Option.bind_some, Option.bind_some, if_neg (by simp), hw]
          exact .inl ⟨_, rfl, ⟨rfl, feed_val hx (hp p hm), by simp only; omega, by simp only; omega⟩, by simp only; omega⟩
        · exact .inr ⟨_, by rw [if_neg (df hc)], rfl⟩) FF (a, a, 0) ⟨rfl, hv, by simp, by simp⟩ (by unfold FF; simp only; omega)
      rw [h5, hq]
      show (wirelesslaw32_exampleHolds FF).bind _ = _
      rw [example_ok]
      rfl
end V
end Go.Proofs.Ytpcckohcoajenaa
