/-
  Frames: the example; what is encoded, what is decoded.
-/
import Derived.Test.YtpcckohcoajenaaOct
namespace Go.Proofs.Ytpcckohcoajenaa
namespace V
theorem example_ok : wirelesslaw32_exampleHolds FF = some true := by kernel_rfl
theorem dt {p : Prop} [Decidable p] (h : p) : decide p = true := decide_eq_true h
theorem df {p : Prop} [Decidable p] (h : ¬ p) : ¬ decide p = true := fun e => h (of_decide_eq_true e)
/-- A frame's bytes are bytes. -/
structure FOk (f : T_api_Frame) : Prop where
  c0 : 0 ≤ f.CID
  c1 : f.CID < 65536
  pl : ∀ x ∈ f.Payload, Byte x
def BigF (f : T_api_Frame) : Prop := f.Payload.length ≤ 131072
def bytesOf (f : T_api_Frame) : List Int := leb 2 f.Payload.length ++ (leb 2 f.CID ++ f.Payload)
def enc (f : T_api_Frame) : List Int × Int :=
  if f.CID = 0 then ([], 1) else if 65531 < f.Payload.length then ([], 4) else (bytesOf f, 0)
theorem enc_ok {f : T_api_Frame} (h : FOk f) : fragment_Encode FF f = some (enc f) := by
  obtain ⟨c0, c1, hp⟩ := h
  unfold fragment_Encode enc
  by_cases h0 : f.CID = 0
  · rw [if_pos (by simpa using h0), if_pos h0]
  rw [if_neg (by simpa using h0), if_neg h0]
  by_cases h1 : 65531 < f.Payload.length
  · rw [if_pos (dt (show len f.Payload > 65531 from by rw [len_nat]; omega)), if_pos h1]
  rw [if_neg (df (show ¬ len f.Payload > 65531 from by rw [len_nat]; omega)), if_neg h1]
  have e1 : wu64 (len f.Payload) = f.Payload.length := wu64_id (by simp [len]) (by simp [len]; omega)
  have e2 : wu64 f.CID = f.CID := wu64_id (by omega) (by omega)
  rw [e1, e2, oput_ok FF [⟨2, f.Payload.length⟩, ⟨2, f.CID⟩] (fun g hg => by
    simp only [List.mem_cons, List.not_mem_nil, or_false] at hg
    rcases hg with rfl | rfl
    · exact ⟨by show (1 : Int) ≤ 2; decide, by show (2 : Int) ≤ 8; decide, by simp only; omega, by simp only; omega, by show (f.Payload.length : Int) < 256 ^ 2; rw [show (256 : Int) ^ 2 = 65536 from by decide]; omega⟩
    · exact ⟨by show (1 : Int) ≤ 2; decide, by show (2 : Int) ≤ 8; decide, by simp only; omega, by simp only; omega, by show f.CID < 256 ^ 2; rw [show (256 : Int) ^ 2 = 65536 from by decide]; omega⟩) (by simp) (by unfold FF; simp)]
  simp only [Option.bind_some]
  have e3 : putAll [⟨2, f.Payload.length⟩, ⟨2, f.CID⟩] = leb 2 f.Payload.length ++ leb 2 f.CID := by simp [putAll]
  rw [if_neg (by simp), e3, join_two FF _ _ (by unfold FF; omega) (by simp [leb_length]; omega)]
  simp [bytesOf]
theorem renc_ok {f : T_api_Frame} (h : FOk f) : wirelessref32_Encode FF f = some (enc f) := by
  obtain ⟨c0, c1, hp⟩ := h
  unfold wirelessref32_Encode enc
  by_cases h0 : f.CID = 0
  · rw [if_pos (by simpa using h0), if_pos h0]
  rw [if_neg (by simpa using h0), if_neg h0]
  by_cases h1 : 65531 < f.Payload.length
  · rw [if_pos (dt (show len f.Payload > 65531 from by rw [len_nat]; omega)), if_pos h1]
  rw [if_neg (df (show ¬ len f.Payload > 65531 from by rw [len_nat]; omega)), if_neg h1]
  have e1 : wu64 (len f.Payload) = f.Payload.length := wu64_id (by simp [len]) (by simp [len]; omega)
  have e2 : wu64 f.CID = f.CID := wu64_id (by omega) (by omega)
  have r1 := rput_ok FF (f.Payload.length : Int) 2 (by unfold FF; omega) (by omega) (by omega) (by omega)
  have r2 := rput_ok FF f.CID 2 (by unfold FF; omega) (by omega) c0 (by omega)
  rw [e1, e2, show (2 : Int) = ((2 : Nat) : Int) from rfl, r1, r2]
  simp only [Option.bind_some]
  rw [app_cat (by simp [leb_length])]
  simp only [Option.bind_some, wirelessref32_Encode_j1]
  rw [app_cat (by simp [leb_length]; omega)]
  simp [bytesOf]
theorem same_frames_refl (F : Nat) (l : List T_api_Frame) (hF : l.length < F) (hl : l.length < 1000000000) : wirelessref32_SameFrames F l l = some true := by
  unfold wirelessref32_SameFrames
  rw [if_neg (by simp)]
  have := iter_count (body := fun s => wirelessref32_SameFrames_l1 F l l s) (fun i => (i : Int)) l.length (.inl ()) (fun i hi => by
    have hx : l[i]? = some l[i] := List.getElem?_eq_getElem hi
    show wirelessref32_SameFrames_l1 F l l _ = _
    unfold wirelessref32_SameFrames_l1
    rw [if_pos (by simp [len]; omega)]
    simp only [idx_nat, hx, Option.bind_some, same_refl]
    rw [if_neg (by simp)]
    simp only [wirelessref32_SameFrames_j2, w64_nat i (by omega)]
    simp) (by
    show wirelessref32_SameFrames_l1 F l l _ = _
    unfold wirelessref32_SameFrames_l1
    rw [if_neg (by simp [len])]) F 0 (by omega) (by omega)
  rw [show ((0 : Nat) : Int) = 0 from rfl] at this
  rw [this]
  rfl
theorem same_packets_refl (F : Nat) (l : List T_api_Packet) (hF : l.length < F) (hl : l.length < 1000000000) : wirelessref23_SamePackets F l l = some true := by
  unfold wirelessref23_SamePackets
  rw [if_neg (by simp)]
  have := iter_count (body := fun s => wirelessref23_SamePackets_l1 F l l s) (fun i => (i : Int)) l.length (.inl ()) (fun i hi => by
    have hx : l[i]? = some l[i] := List.getElem?_eq_getElem hi
    show wirelessref23_SamePackets_l1 F l l _ = _
    unfold wirelessref23_SamePackets_l1
    rw [if_pos (by simp [len]; omega)]
    simp only [idx_nat, hx, Option.bind_some, wirelessref23_SamePacket, same_refl, BEq.rfl, if_true]
    simp only [wirelessref23_SamePackets_j2, w64_nat i (by omega)]
    simp) (by
    show wirelessref23_SamePackets_l1 F l l _ = _
    unfold wirelessref23_SamePackets_l1
    rw [if_neg (by simp [len])]) F 0 (by omega) (by omega)
  rw [show ((0 : Nat) : Int) = 0 from rfl] at this
  rw [this]
  rfl

/-! ### Heads -/
theorem hi_byte {x : Int} (hx : Byte x) : ishl .i64 (w64 x) 8 = some (x * 256) := by
  obtain ⟨h0, h1⟩ := hx
  rw [w64_id (by omega) (by omega)]
  show some (IntKind.i64.wrap (x * 2 ^ (min (8 : Int).toNat IntKind.i64.bits))) = _
  rw [show (2 : Int) ^ (min (8 : Int).toNat IntKind.i64.bits) = 256 from by decide, wrap_i64, w64_id (by omega) (by omega)]
theorem hi_byte16 {x : Int} (hx : Byte x) : ishl .u16 (wu16 x) 8 = some (x * 256) := by
  obtain ⟨h0, h1⟩ := hx
  rw [wu16_id (by omega) (by omega)]
  show some (IntKind.u16.wrap (x * 2 ^ (min (8 : Int).toNat IntKind.u16.bits))) = _
  rw [show (2 : Int) ^ (min (8 : Int).toNat IntKind.u16.bits) = 256 from by decide, wrap_u16, wu16_id (by omega) (by omega)]
theorem nat_or_add8 (a b : Nat) (ha : a < 256) : a ||| (b * 256) = a + b * 256 := by
  have h := Nat.shiftLeft_add_eq_or_of_lt (i := 8) (show a < 2 ^ 8 by omega) b
  rw [Nat.shiftLeft_eq] at h
  rw [Nat.or_comm, show (256 : Nat) = 2 ^ 8 from rfl, ← h, Nat.add_comm]
theorem or_byte {x y : Int} (hx : Byte x) (hy : Byte y) : ior .i64 (w64 x) (y * 256) = x + 256 * y := by
  obtain ⟨h0, h1⟩ := hx
  obtain ⟨g0, g1⟩ := hy
  rw [w64_id (by omega) (by omega)]
  obtain ⟨x, rfl⟩ := Int.eq_ofNat_of_zero_le h0
  obtain ⟨y, rfl⟩ := Int.eq_ofNat_of_zero_le g0
  unfold ior
  have e : (BitVec.ofInt IntKind.i64.bits (x : Int) ||| BitVec.ofInt IntKind.i64.bits ((y : Int) * 256)).toNat = x + y * 256 := by
    rw [show ((y : Int) * 256) = ((y * 256 : Nat) : Int) from by rw [Int.natCast_mul]; rfl, BitVec.toNat_or]
    show (BitVec.ofInt 64 (x : Int)).toNat ||| (BitVec.ofInt 64 ((y * 256 : Nat) : Int)).toNat = _
    rw [BitVec.toNat_ofInt, BitVec.toNat_ofInt]
    rw [show (((x : Nat) : Int) % ((2 ^ 64 : Nat) : Int)).toNat = x from by rw [← Int.natCast_emod, Int.toNat_natCast, Nat.mod_eq_of_lt (by omega)]]
    rw [show (((y * 256 : Nat) : Int) % ((2 ^ 64 : Nat) : Int)).toNat = y * 256 from by rw [← Int.natCast_emod, Int.toNat_natCast, Nat.mod_eq_of_lt (by omega)]]
    exact nat_or_add8 x y (by omega)
  rw [e, wrap_i64, w64_id (by omega) (by omega)]
  omega
theorem or_byte16 {x y : Int} (hx : Byte x) (hy : Byte y) : ior .u16 (wu16 x) (y * 256) = x + 256 * y := by
  obtain ⟨h0, h1⟩ := hx
  obtain ⟨g0, g1⟩ := hy
  rw [wu16_id (by omega) (by omega)]
  obtain ⟨x, rfl⟩ := Int.eq_ofNat_of_zero_le h0
  obtain ⟨y, rfl⟩ := Int.eq_ofNat_of_zero_le g0
  unfold ior
  have e : (BitVec.ofInt IntKind.u16.bits (x : Int) ||| BitVec.ofInt IntKind.u16.bits ((y : Int) * 256)).toNat = x + y * 256 := by
    rw [show ((y : Int) * 256) = ((y * 256 : Nat) : Int) from by rw [Int.natCast_mul]; rfl, BitVec.toNat_or]
    show (BitVec.ofInt 16 (x : Int)).toNat ||| (BitVec.ofInt 16 ((y * 256 : Nat) : Int)).toNat = _
    rw [BitVec.toNat_ofInt, BitVec.toNat_ofInt]
    rw [show (((x : Nat) : Int) % ((2 ^ 16 : Nat) : Int)).toNat = x from by rw [← Int.natCast_emod, Int.toNat_natCast, Nat.mod_eq_of_lt (by omega)]]
    rw [show (((y * 256 : Nat) : Int) % ((2 ^ 16 : Nat) : Int)).toNat = y * 256 from by rw [← Int.natCast_emod, Int.toNat_natCast, Nat.mod_eq_of_lt (by omega)]]
    exact nat_or_add8 x y (by omega)
  rw [e, wrap_u16, wu16_id (by omega) (by omega)]
  omega
def hd : List Int → Int × Int
  | a :: b :: c :: d :: _ => (a + 256 * b, c + 256 * d)
  | _ => (0, 0)
theorem four {b : List Int} (h : 4 ≤ b.length) : ∃ x y z u r, b = x :: y :: z :: u :: r := by
  match b, h with
  | x :: y :: z :: u :: r, _ => exact ⟨x, y, z, u, r, rfl⟩
theorem header_ok {b : List Int} (hb : ∀ x ∈ b, Byte x) (h : 4 ≤ b.length) : fragment_header FF b = some (hd b) := by
  obtain ⟨x, y, z, u, r, rfl⟩ := four h
  have hx := hb x (by simp)
  have hy := hb y (by simp)
  have hz := hb z (by simp)
  have hu := hb u (by simp)
  unfold fragment_header
  rw [show idx (x :: y :: z :: u :: r) 0 = some x from rfl, Option.bind_some, show idx (x :: y :: z :: u :: r) 1 = some y from rfl, Option.bind_some,
    show idx (x :: y :: z :: u :: r) 2 = some z from rfl, Option.bind_some, show idx (x :: y :: z :: u :: r) 3 = some u from rfl, Option.bind_some,
    hi_byte hy, Option.bind_some, hi_byte16 hu, Option.bind_some, or_byte hx hy, or_byte16 hz hu]
  rfl
theorem hd_range {b : List Int} (hb : ∀ x ∈ b, Byte x) : 0 ≤ (hd b).1 ∧ (hd b).1 < 65536 ∧ 0 ≤ (hd b).2 ∧ (hd b).2 < 65536 := by
  match b, hb with
  | [], _ => simp [hd]
  | [_], _ => simp [hd]
  | [_, _], _ => simp [hd]
  | [_, _, _], _ => simp [hd]
  | x :: y :: z :: u :: r, hb =>
    have hx := hb x (by simp)
    have hy := hb y (by simp)
    have hz := hb z (by simp)
    have hu := hb u (by simp)
    unfold Byte at hx hy hz hu
    simp only [hd]
    omega
theorem rhead_ok {b : List Int} (hb : ∀ x ∈ b, Byte x) (h : 4 ≤ b.length) : wirelessref32_head FF b = some (hd b) := by
  have hr := hd_range hb
  obtain ⟨x, y, z, u, r, rfl⟩ := four h
  have hx := hb x (by simp)
  have hy := hb y (by simp)
  have hz := hb z (by simp)
  have hu := hb u (by simp)
  have n1 := rnum_ok FF (x :: y :: z :: u :: r) [x, y] 0 (by unfold FF; simp) (fun q hq => by
    simp only [List.mem_cons, List.not_mem_nil, or_false] at hq
    rcases hq with rfl | rfl <;> assumption) (by simp) (by omega) (fun i hi => by
    match i, hi with
    | 0, _ => rfl
    | 1, _ => rfl)
  have n2 := rnum_ok FF (x :: y :: z :: u :: r) [z, u] 2 (by unfold FF; simp) (fun q hq => by
    simp only [List.mem_cons, List.not_mem_nil, or_false] at hq
    rcases hq with rfl | rfl <;> assumption) (by simp) (by omega) (fun i hi => by
    match i, hi with
    | 0, _ => rfl
    | 1, _ => rfl)
  unfold wirelessref32_head
  have e1 : wirelessref23_Num FF (x :: y :: z :: u :: r) 0 2 = some (num [x, y]) := n1
  have e2 : wirelessref23_Num FF (x :: y :: z :: u :: r) 2 2 = some (num [z, u]) := n2
  rw [e1, Option.bind_some, e2, Option.bind_some]
  unfold Byte at hx hy hz hu
  simp only [num, hd]
  rw [w64_id (by omega) (by omega), wu16_id (by omega) (by omega)]
  simp only [Int.mul_zero, Int.add_zero]
def zf : T_api_Frame := ⟨0, []⟩
def dec (b : List Int) : T_api_Frame × Int :=
  if b.length < 4 then (zf, 3)
  else if (hd b).2 = 0 then (zf, 1)
  else if 65531 < (hd b).1 then (zf, 4)
  else if (b.length : Int) - 4 < (hd b).1 then (zf, 3)
  else if (hd b).1 < (b.length : Int) - 4 then (zf, 2)
  else (⟨(hd b).2, b.drop 4⟩, 0)
theorem sub4 {b : List Int} (h : 4 ≤ b.length) : sub b 4 (len b) = some (b.drop 4) := by
  rw [len_nat, show (4 : Int) = ((4 : Nat) : Int) from rfl, sub_nat b 4 b.length h (Nat.le_refl _), List.take_length]
theorem dec_ok {b : List Int} (hb : ∀ x ∈ b, Byte x) (hl : b.length ≤ 1000000) : fragment_Decode FF b = some (dec b) := by
  unfold fragment_Decode dec
  by_cases h0 : b.length < 4
  · rw [if_pos (dt (show len b < 4 from by rw [len_nat]; omega)), if_pos h0]; rfl
  rw [if_neg (df (show ¬ len b < 4 from by rw [len_nat]; omega)), if_neg h0, header_ok hb (by omega), Option.bind_some]
  have e : w64 (len b - 4) = (b.length : Int) - 4 := w64_id (by rw [len_nat]; omega) (by rw [len_nat]; omega)
  rw [e]
  by_cases h1 : (hd b).2 = 0
  · rw [if_pos (show ((hd b).2 == 0) = true from by simpa using h1), if_pos h1]; rfl
  rw [if_neg (show ¬ ((hd b).2 == 0) = true from by simpa using h1), if_neg h1]
  by_cases h2 : 65531 < (hd b).1
  · rw [if_pos (show decide ((hd b).1 > 65531) = true from by simpa using h2), if_pos h2]; rfl
  rw [if_neg (show ¬ decide ((hd b).1 > 65531) = true from by simpa using h2), if_neg h2]
  by_cases h3 : (b.length : Int) - 4 < (hd b).1
  · rw [if_pos (show decide ((b.length : Int) - 4 < (hd b).1) = true from by simpa using h3), if_pos h3]; rfl
  rw [if_neg (show ¬ decide ((b.length : Int) - 4 < (hd b).1) = true from by simpa using h3), if_neg h3]
  by_cases h4 : (hd b).1 < (b.length : Int) - 4
  · rw [if_pos (show decide ((b.length : Int) - 4 > (hd b).1) = true from by simpa using h4), if_pos h4]; rfl
  rw [if_neg (show ¬ decide ((b.length : Int) - 4 > (hd b).1) = true from by simpa using h4), if_neg h4, sub4 (by omega), Option.bind_some, join_one FF _ (by unfold FF; omega) (by simp; omega)]
  rfl
theorem rdec_ok {b : List Int} (hb : ∀ x ∈ b, Byte x) (hl : b.length ≤ 1000000) : wirelessref32_Decode FF b = some (dec b) := by
  unfold wirelessref32_Decode dec
  by_cases h0 : b.length < 4
  · rw [if_pos (dt (show len b < 4 from by rw [len_nat]; omega)), if_pos h0]; rfl
  rw [if_neg (df (show ¬ len b < 4 from by rw [len_nat]; omega)), if_neg h0, rhead_ok hb (by omega), Option.bind_some]
  have e : w64 (len b - 4) = (b.length : Int) - 4 := w64_id (by rw [len_nat]; omega) (by rw [len_nat]; omega)
  rw [e]
  by_cases h1 : (hd b).2 = 0
  · rw [if_pos (show ((hd b).2 == 0) = true from by simpa using h1), if_pos h1]; rfl
  rw [if_neg (show ¬ ((hd b).2 == 0) = true from by simpa using h1), if_neg h1]
  by_cases h2 : 65531 < (hd b).1
  · rw [if_pos (show decide ((hd b).1 > 65531) = true from by simpa using h2), if_pos h2]; rfl
  rw [if_neg (show ¬ decide ((hd b).1 > 65531) = true from by simpa using h2), if_neg h2]
  by_cases h3 : (b.length : Int) - 4 < (hd b).1
  · rw [if_pos (show decide ((b.length : Int) - 4 < (hd b).1) = true from by simpa using h3), if_pos h3]; rfl
  rw [if_neg (show ¬ decide ((b.length : Int) - 4 < (hd b).1) = true from by simpa using h3), if_neg h3]
  by_cases h4 : (hd b).1 < (b.length : Int) - 4
  · rw [if_pos (show decide ((b.length : Int) - 4 > (hd b).1) = true from by simpa using h4), if_pos h4]; rfl
  rw [if_neg (show ¬ decide ((b.length : Int) - 4 > (hd b).1) = true from by simpa using h4), if_neg h4, sub4 (by omega), Option.bind_some, app_cat (by simp; omega)]
  simp

/-! ### Encoding and decoding -/
theorem encodes_law (f : T_api_Frame) (h : FOk f) : wirelesslaw32_FragmentEncodes FF f = some true := by
  unfold wirelesslaw32_FragmentEncodes
  by_cases hb : decide (len f.Payload > 131072) = true
  · rw [if_pos hb, example_ok]; rfl
  rw [if_neg hb, enc_ok h, renc_ok h]
  simp only [Option.bind_some, BEq.rfl, if_true, same_refl, example_ok]
theorem decodes_law (b : List Int) (h : ∀ x ∈ b, Byte x) : wirelesslaw32_FragmentDecodes FF b = some true := by
  unfold wirelesslaw32_FragmentDecodes
  by_cases hb : decide (len b > 131072) = true
  · rw [if_pos hb, example_ok]; rfl
  have hl : b.length ≤ 131072 := by
    have := len_nat b
    have h2 : ¬ len b > 131072 := fun h => hb (dt h)
    omega
  rw [if_neg hb, dec_ok h (by omega), rdec_ok h (by omega)]
  simp only [Option.bind_some, BEq.rfl, Bool.and_self, if_true, same_refl, example_ok]
/-! ### There and back -/
theorem bytesOf_len (f : T_api_Frame) : (bytesOf f).length = f.Payload.length + 4 := by simp [bytesOf, leb_length]; omega
theorem bytesOf_byte {f : T_api_Frame} (h : FOk f) : ∀ x ∈ bytesOf f, Byte x := by
  intro x hx
  unfold bytesOf at hx
  simp only [List.mem_append] at hx
  rcases hx with hx | hx | hx
  · exact leb_byte _ _ _ hx
  · exact leb_byte _ _ _ hx
  · exact h.pl x hx
theorem bytesOf_eq {f : T_api_Frame} : bytesOf f = (f.Payload.length : Int) % 256 :: (f.Payload.length : Int) / 256 % 256 :: f.CID % 256 :: f.CID / 256 % 256 :: f.Payload := rfl
theorem hd_bytesOf {f : T_api_Frame} (h : FOk f) (hl : f.Payload.length ≤ 65531) : hd (bytesOf f) = ((f.Payload.length : Int), f.CID) := by
  obtain ⟨c0, c1, _⟩ := h
  rw [bytesOf_eq]
  simp only [hd]
  congr 1 <;> omega
theorem dec_bytesOf {f : T_api_Frame} (h : FOk f) (hc : f.CID ≠ 0) (hl : f.Payload.length ≤ 65531) : dec (bytesOf f) = (f, 0) := by
  unfold dec
  rw [hd_bytesOf h hl, bytesOf_len]
  rw [if_neg (by omega), if_neg hc, if_neg (by simp only; omega), if_neg (by simp only; omega), if_neg (by simp only; omega)]
  rfl
theorem dec_zero {b : List Int} (hb : ∀ x ∈ b, Byte x) (h : (dec b).2 = 0) : FOk (dec b).1 ∧ enc (dec b).1 = (b, 0) := by
  unfold dec at h ⊢
  split at h
  · cases h
  rename_i h0
  split at h
  · cases h
  rename_i h1
  split at h
  · cases h
  rename_i h2
  split at h
  · cases h
  rename_i h3
  split at h
  · cases h
  rename_i h4
  rw [if_neg h0, if_neg h1, if_neg h2, if_neg h3, if_neg h4]
  have hr := hd_range hb
  refine ⟨⟨hr.2.2.1, hr.2.2.2, fun x hx => hb x (List.mem_of_mem_drop hx)⟩, ?_⟩
  unfold enc
  have hdl : (b.drop 4).length = b.length - 4 := by simp
  rw [if_neg h1, if_neg (by simp only [hdl]; omega), bytesOf_eq]
  simp only [hdl]
  obtain ⟨x, y, z, u, r, rfl⟩ := four (by omega : 4 ≤ b.length)
  have hx := hb x (by simp)
  have hy := hb y (by simp)
  have hz := hb z (by simp)
  have hu := hb u (by simp)
  unfold Byte at hx hy hz hu
  simp only [hd, List.length_cons, List.drop_succ_cons, List.drop_zero] at h0 h1 h2 h3 h4 ⊢
  congr 2
  · omega
  congr 1
  · omega
  congr 1
  · omega
  congr 1
  omega
end V
end Go.Proofs.Ytpcckohcoajenaa
