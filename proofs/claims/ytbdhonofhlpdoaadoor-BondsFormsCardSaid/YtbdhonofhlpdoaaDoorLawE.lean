/-
  The bytes of a bond: both sides write the same.
-/
import Derived.Test.YtbdhonofhlpdoaaDoorLawA
namespace Go.Proofs.YtbdhonofhlpdoaaDoor
namespace V
/-- Numbers of a bond within their types. -/
structure RB (b : T_api_Bond) : Prop where
  bits : U64 b.Peer.Address.Bits
  irk : U64 b.Peer.IRK
  ltk : U64 b.LTK
  mark : U64 b.Mark
  hash : U64 b.Hash
  hand : ∀ s ∈ b.Subs, 0 ≤ s.Handle ∧ s.Handle < 65536
theorem chkA_lt {a : T_api_Address} (h : chkA a = 0) : 1 ≤ a.Kind ∧ a.Kind ≤ 4 ∧ a.Bits < 281474976710656 := by
  unfold chkA at h
  by_cases c1 : a.Kind ≤ 0 ∨ a.Kind ≥ 5
  · rw [if_pos c1] at h; cases h
  · rw [if_neg c1] at h
    by_cases c2 : a.Bits ≥ 281474976710656
    · rw [if_pos c2] at h; cases h
    · omega
def flagsOf (b : T_api_Bond) : Int := (if b.Strong = true then 1 else 0) + (if b.Aware = true then 2 else 0)
def subB (s : T_api_Subscription) : List Int := leb 2 s.Handle ++ leb 1 s.Bits
/-- The bytes of a bond. -/
def encB (b : T_api_Bond) : List Int :=
  leb 1 b.Peer.Address.Kind ++ leb 6 b.Peer.Address.Bits ++ (leb 8 b.Peer.IRK ++ leb 8 b.LTK ++ leb 8 b.Mark ++ leb 1 (flagsOf b) ++ leb 8 b.Hash ++ leb 4 b.Used ++ leb 1 (b.Subs.length : Int) ++ b.Subs.flatMap subB)
theorem putAll_append (a b : List T_api_Field) : putAll (a ++ b) = putAll a ++ putAll b := by simp [putAll]
theorem flags_ok (F : Nat) (b : T_api_Bond) : bonds_flags F b = some (flagsOf b) := by
  unfold bonds_flags bonds_flags_j1 bonds_flags_j2 flagsOf
  cases b.Strong <;> cases b.Aware <;> rfl
theorem flags_rng (b : T_api_Bond) : 0 ≤ flagsOf b ∧ flagsOf b ≤ 3 := by
  unfold flagsOf
  split <;> split <;> omega
theorem uaddr (F : Nat) (a : T_api_Address) (hF : 100 < F) (h : U64 a.Bits) (h0 : chkA a = 0) : address_Encode F a = some (leb 1 a.Kind ++ leb 6 a.Bits, 0) := by
  have hc := chkA_lt h0
  have hb := h.1
  unfold address_Encode
  rw [ucheck F a h, h0, Option.bind_some, if_neg (by decide), wu64_id (x := a.Kind) (by omega) (by omega)]
  rw [oput_ok F [T_api_Field.mk 1 a.Kind, T_api_Field.mk 6 a.Bits] (fun f hf => by
    simp only [List.mem_cons, List.not_mem_nil, or_false] at hf
    rcases hf with rfl | rfl
    · exact ⟨by simp, by simp, by simp only; omega, by simp only; omega, by show a.Kind < 256 ^ 1; omega⟩
    · exact ⟨by simp, by simp, by simp only; omega, by simp only; omega, by show a.Bits < 256 ^ 6; omega⟩) (by simp) (by simp; omega), Option.bind_some]
  simp [putAll]
theorem leb_one (n : Int) : leb 1 n = [n % 256] := rfl
theorem raddr (F : Nat) (a : T_api_Address) (hF : 100 < F) (h : U64 a.Bits) (h0 : chkA a = 0) : wirelessref08_Encode F a = some (leb 1 a.Kind ++ leb 6 a.Bits, 0) := by
  unfold wirelessref08_Encode wirelessref08_Encode_j1
  rw [rcheck F a h, h0, Option.bind_some, if_neg (by decide), show (6 : Int) = ((6 : Nat) : Int) from rfl, rnum_ok F 6 a.Bits (by omega) (by omega) h, Option.bind_some, app_cat (by simp [leb_length]), Option.bind_some]
  rfl
def fld7 (b : T_api_Bond) : List T_api_Field := [T_api_Field.mk 8 b.Peer.IRK, T_api_Field.mk 8 b.LTK, T_api_Field.mk 8 b.Mark, T_api_Field.mk 1 (flagsOf b), T_api_Field.mk 8 b.Hash, T_api_Field.mk 4 b.Used, T_api_Field.mk 1 (b.Subs.length : Int)]
def subF (s : T_api_Subscription) : List T_api_Field := [T_api_Field.mk 2 s.Handle, T_api_Field.mk 1 s.Bits]
theorem subF_len : ∀ (l : List T_api_Subscription), (l.flatMap subF).length = 2 * l.length
  | [] => rfl
  | s :: l => by simp [subF, subF_len l]; omega
theorem subF_put : ∀ (l : List T_api_Subscription), putAll (l.flatMap subF) = l.flatMap subB
  | [] => rfl
  | s :: l => by
    rw [List.flatMap_cons, List.flatMap_cons, putAll_append, subF_put l]
    simp [putAll, subF, subB]
theorem okSub_mem {l : List T_api_Subscription} (h : SubsOk l) {s : T_api_Subscription} (hs : s ∈ l) : okSub s := by
  obtain ⟨i, hi⟩ := List.mem_iff_getElem?.1 hs
  exact (h i s hi).1
theorem enc_u (F : Nat) (b : T_api_Bond) (hF : 2000 < F) (hv : VB b) (hr : RB b) : bonds_Encode F b = some (encB b, 0) := by
  obtain ⟨e, k1, k2⟩ := check_ok F b hF hr.bits
  have he := k2.2 hv
  subst he
  obtain ⟨f0, f1⟩ := flags_rng b
  obtain ⟨u0, u1⟩ := hv.used
  have hfew := hv.few
  have hln := len_nat b.Subs
  unfold bonds_Encode bonds_Encode_1
  rw [check_same F b hr.bits, k1, Option.bind_some, if_neg (by decide), uaddr F _ (by omega) hr.bits hv.adr]
  simp only [Option.bind_some]
  rw [flags_ok F b, Option.bind_some, wu64_id (x := b.Used) u0 (by omega), wu64_id (x := len b.Subs) (by omega) (by omega), hln]
  unfold bonds_Encode_j1 bonds_Encode_j2
  have hloop := iter_count (body := fun s : List T_api_Field × Int => bonds_Encode_l1 F b s.1 s.2) (fun i => (fld7 b ++ (b.Subs.take i).flatMap subF, (i : Int))) b.Subs.length (fld7 b ++ b.Subs.flatMap subF) (fun i hi => by
    have hx : b.Subs[i]? = some b.Subs[i] := List.getElem?_eq_getElem hi
    have hok := okSub_mem hv.subs (List.getElem_mem hi)
    have hh := hr.hand _ (List.getElem_mem hi)
    unfold okSub at hok
    have hlen : (fld7 b ++ (b.Subs.take i).flatMap subF).length ≤ 100 := by
      rw [List.length_append, subF_len, List.length_take]
      simp [fld7]
      omega
    show bonds_Encode_l1 F b _ _ = _
    unfold bonds_Encode_l1 bonds_Encode_1
    rw [if_pos (by rw [decide_eq_true_eq]; omega), idx_nat, hx]
    simp only [Option.bind_some]
    rw [wu64_id (x := b.Subs[i].Handle) (by omega) (by omega), wu64_id (x := b.Subs[i].Bits) (by omega) (by omega), app_small (by simp at hlen ⊢; omega) (by omega), Option.bind_some, w64_nat i (by omega)]
    have : (b.Subs.take (i + 1)).flatMap subF = (b.Subs.take i).flatMap subF ++ subF b.Subs[i] := by rw [List.take_add_one, hx, Option.toList_some, List.flatMap_append, List.flatMap_singleton]
    rw [this, List.append_assoc]
    rfl) (by
    show bonds_Encode_l1 F b _ _ = _
    unfold bonds_Encode_l1
    rw [if_neg (by rw [decide_eq_true_eq]; omega), List.take_length]) F 0 (by omega) (by omega)
  rw [List.take_zero, show ((0 : Nat) : Int) = 0 from rfl] at hloop
  simp only [List.flatMap_nil, List.append_nil] at hloop
  rw [show [T_api_Field.mk 8 b.Peer.IRK, T_api_Field.mk 8 b.LTK, T_api_Field.mk 8 b.Mark, T_api_Field.mk 1 (flagsOf b), T_api_Field.mk 8 b.Hash, T_api_Field.mk 4 b.Used, T_api_Field.mk 1 (b.Subs.length : Int)] = fld7 b from rfl]
  rw [hloop, Option.bind_some]
  have hput := oput_ok F (fld7 b ++ b.Subs.flatMap subF) (fun f hf => by
    rcases List.mem_append.1 hf with hf | hf
    · obtain ⟨i0, i1⟩ := hr.irk
      obtain ⟨l0, l1⟩ := hr.ltk
      obtain ⟨m0, m1⟩ := hr.mark
      obtain ⟨h0, h1⟩ := hr.hash
      simp only [fld7, List.mem_cons, List.not_mem_nil, or_false] at hf
      rcases hf with rfl | rfl | rfl | rfl | rfl | rfl | rfl
      · exact ⟨by simp, by simp, i0, i1, i1⟩
      · exact ⟨by simp, by simp, l0, l1, l1⟩
      · exact ⟨by simp, by simp, m0, m1, m1⟩
      · exact ⟨by simp, by simp, f0, by simp only; omega, by show flagsOf b < 256 ^ 1; omega⟩
      · exact ⟨by simp, by simp, h0, h1, h1⟩
      · exact ⟨by simp, by simp, u0, by simp only; omega, by show b.Used < 256 ^ 4; omega⟩
      · exact ⟨by simp, by simp, by simp, by simp only; omega, by show (b.Subs.length : Int) < 256 ^ 1; omega⟩
    · obtain ⟨s, hs, hf⟩ := List.mem_flatMap.1 hf
      have hok := okSub_mem hv.subs hs
      have hh := hr.hand _ hs
      unfold okSub at hok
      simp only [subF, List.mem_cons, List.not_mem_nil, or_false] at hf
      rcases hf with rfl | rfl
      · exact ⟨by simp, by simp, hh.1, by simp only; omega, by show s.Handle < 256 ^ 2; omega⟩
      · exact ⟨by simp, by simp, hok.2.1, by simp only; omega, by show s.Bits < 256 ^ 1; omega⟩) (by rw [List.length_append, subF_len]; simp [fld7]; omega) (by rw [List.length_append, subF_len]; simp [fld7]; omega)
  rw [hput, Option.bind_some, if_neg (by simp)]
  have hpl : (putAll (fld7 b ++ b.Subs.flatMap subF)).length ≤ 1000 := by
    rw [putAll_append, subF_put]
    have : ∀ (l : List T_api_Subscription), (l.flatMap subB).length = 3 * l.length := by
      intro l
      induction l with
      | nil => rfl
      | cons s l ih => simp [subB, leb_length, ih]; omega
    rw [List.length_append, this]
    simp [putAll, fld7, leb_length]
    omega
  rw [join_two F _ _ (by omega) (by simp [leb_length]; omega), Option.bind_some]
  have : putAll (fld7 b ++ b.Subs.flatMap subF) = leb 8 b.Peer.IRK ++ leb 8 b.LTK ++ leb 8 b.Mark ++ leb 1 (flagsOf b) ++ leb 8 b.Hash ++ leb 4 b.Used ++ leb 1 (b.Subs.length : Int) ++ b.Subs.flatMap subB := by
    rw [putAll_append, subF_put]
    simp [putAll, fld7, List.append_assoc]
  rw [this]
  rfl
theorem subB_len : ∀ (l : List T_api_Subscription), (l.flatMap subB).length = 3 * l.length
  | [] => rfl
  | s :: l => by simp [subB, leb_length, subB_len l]; omega
theorem enc_r (F : Nat) (b : T_api_Bond) (hF : 2000 < F) (hv : VB b) (hr : RB b) : wirelessref40_Encode F b = some (encB b, 0) := by
  obtain ⟨e, k1, k2⟩ := check_ok F b hF hr.bits
  have he := k2.2 hv
  subst he
  obtain ⟨u0, u1⟩ := hv.used
  have hfew := hv.few
  have hln := len_nat b.Subs
  have n8 : ∀ v, U64 v → wirelessref02_Num F 8 v = some (leb 8 v) := fun v h => rnum_ok F 8 v (by omega) (by omega) h
  unfold wirelessref40_Encode
  rw [k1, Option.bind_some, if_neg (by decide), raddr F _ (by omega) hr.bits hv.adr, Option.bind_some, n8 _ hr.irk, Option.bind_some, app_cat (by simp [leb_length]), Option.bind_some, n8 _ hr.ltk, Option.bind_some, app_cat (by simp [leb_length]), Option.bind_some, n8 _ hr.mark, Option.bind_some, app_cat (by simp [leb_length]), Option.bind_some]
  generalize hpre : leb 1 b.Peer.Address.Kind ++ leb 6 b.Peer.Address.Bits ++ leb 8 b.Peer.IRK ++ leb 8 b.LTK ++ leb 8 b.Mark = pre
  have hprel : pre.length = 31 := by rw [← hpre]; simp [leb_length]
  have key : wirelessref40_Encode_j3 F b pre (flagsOf b) = some (pre ++ leb 1 (flagsOf b) ++ leb 8 b.Hash ++ leb 4 b.Used ++ leb 1 (b.Subs.length : Int) ++ b.Subs.flatMap subB, 0) := by
    obtain ⟨f0, f1⟩ := flags_rng b
    unfold wirelessref40_Encode_j3
    have hfl : [flagsOf b] = leb 1 (flagsOf b) := by rw [leb_one, Int.emod_eq_of_lt f0 (by omega)]
    rw [hfl, app_cat (by simp [leb_length]; omega), Option.bind_some, n8 _ hr.hash, Option.bind_some, app_cat (by simp [leb_length]; omega), Option.bind_some, wu64_id (x := b.Used) u0 (by omega), show (4 : Int) = ((4 : Nat) : Int) from rfl, rnum_ok F 4 b.Used (by omega) (by omega) ⟨u0, by omega⟩, Option.bind_some, app_cat (by simp [leb_length]; omega), Option.bind_some]
    unfold wirelessref40_Encode_j4 wirelessref40_Encode_j5
    have hnl : [wu8 (len b.Subs)] = leb 1 (b.Subs.length : Int) := by rw [hln]; rfl
    rw [hnl, app_cat (by simp [leb_length]; omega), Option.bind_some]
    generalize hp2 : pre ++ leb 1 (flagsOf b) ++ leb 8 b.Hash ++ leb 4 b.Used ++ leb 1 (b.Subs.length : Int) = p2
    have hp2l : p2.length = 45 := by rw [← hp2]; simp [leb_length, hprel]
    have hloop := iter_count (body := fun s : List Int × Int => wirelessref40_Encode_l1 F b s.1 s.2) (fun i => (p2 ++ (b.Subs.take i).flatMap subB, (i : Int))) b.Subs.length (p2 ++ b.Subs.flatMap subB) (fun i hi => by
      have hx : b.Subs[i]? = some b.Subs[i] := List.getElem?_eq_getElem hi
      have hok := okSub_mem hv.subs (List.getElem_mem hi)
      have hh := hr.hand _ (List.getElem_mem hi)
      unfold okSub at hok
      have hlen : (p2 ++ (b.Subs.take i).flatMap subB).length ≤ 200 := by
        rw [List.length_append, subB_len, List.length_take]
        omega
      show wirelessref40_Encode_l1 F b _ _ = _
      unfold wirelessref40_Encode_l1
      rw [if_pos (by rw [decide_eq_true_eq]; omega), idx_nat, hx]
      simp only [Option.bind_some]
      rw [wu64_id (x := b.Subs[i].Handle) (by omega) (by omega), show (2 : Int) = ((2 : Nat) : Int) from rfl, rnum_ok F 2 _ (by omega) (by omega) ⟨hh.1, by omega⟩, Option.bind_some, app_cat (by rw [leb_length]; omega), Option.bind_some, app_cat (by rw [List.length_append, leb_length]; show _ + 1 ≤ _; omega), Option.bind_some, w64_nat i (by omega)]
      have : (b.Subs.take (i + 1)).flatMap subB = (b.Subs.take i).flatMap subB ++ subB b.Subs[i] := by rw [List.take_add_one, hx, Option.toList_some, List.flatMap_append, List.flatMap_singleton]
      rw [this]
      simp only [subB, leb_one, List.append_assoc]
      rfl) (by
      show wirelessref40_Encode_l1 F b _ _ = _
      unfold wirelessref40_Encode_l1
      rw [if_neg (by rw [decide_eq_true_eq]; omega), List.take_length]) F 0 (by omega) (by omega)
    rw [List.take_zero, show ((0 : Nat) : Int) = 0 from rfl] at hloop
    simp only [List.flatMap_nil, List.append_nil] at hloop
    rw [hloop]
    rfl
  have hj : wirelessref40_Encode_j1 F b pre = wirelessref40_Encode_j3 F b pre (flagsOf b) := by
    unfold wirelessref40_Encode_j1 wirelessref40_Encode_j2 flagsOf
    cases b.Strong <;> cases b.Aware <;> rfl
  rw [hj, key, ← hpre]
  unfold encB
  simp only [List.append_assoc]
/-- Both encodes. -/
theorem enc_both (F : Nat) (b : T_api_Bond) (hF : 2000 < F) (hr : RB b) : ∃ r, bonds_Encode F b = some r ∧ wirelessref40_Encode F b = some r := by
  obtain ⟨e, k1, k2⟩ := check_ok F b hF hr.bits
  by_cases h : e = 0
  · subst h
    have hv := k2.1 rfl
    exact ⟨_, enc_u F b hF hv hr, enc_r F b hF hv hr⟩
  · refine ⟨([], e), ?_, ?_⟩
    · unfold bonds_Encode
      rw [check_same F b hr.bits, k1, Option.bind_some, if_pos (by simpa using h)]
    · unfold wirelessref40_Encode
      rw [k1, Option.bind_some, if_pos (by simpa using h)]
end V
end Go.Proofs.YtbdhonofhlpdoaaDoor
