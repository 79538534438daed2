/-
  A low-power node's side: the program's calls are the document's.
-/
import Derived.Test.YtphigebccfoppaaLoop
import Derived.Test.YtphigebccfoppaaFn
import Derived.KernelRfl
namespace Go.Proofs.Ytphigebccfoppaa
namespace V
def FF : Nat := 1125899906842624
theorem dt {p : Prop} [Decidable p] (h : p) : decide p = true := decide_eq_true h
theorem df {p : Prop} [Decidable p] (h : ¬ p) : ¬ decide p = true := by simpa using h
theorem lives_ok : wirelesslaw51_lives FF = some true := by kernel_rfl
theorem clone_ok (F : Nat) {l : List Int} (h : l.length ≤ 100000) : slices_Clone_uint16_uint16 F l = some l := by
  unfold slices_Clone_uint16_uint16
  rw [app_small (by simp; omega) (by omega), Option.bind_some, List.nil_append]
theorem same_refl (F : Nat) (l : List Int) : wirelessref02_Same F l l = some true := by simp [wirelessref02_Same]
theorem subs_refl (F : Nat) (l : List Int) (hn : l.length ≤ 100000) (hF : 200000 < F) : wirelesslaw51_sameSubs F l l = some true := by
  unfold wirelesslaw51_sameSubs
  rw [if_neg (by simp)]
  have := iter_count (body := fun s : Int => wirelesslaw51_sameSubs_l1 F l l s) (fun i => (i : Int)) l.length (.inl ()) (by
    intro i hi
    have hx : l[i]? = some l[i] := List.getElem?_eq_getElem hi
    show wirelesslaw51_sameSubs_l1 F l l (i : Int) = _
    unfold wirelesslaw51_sameSubs_l1
    rw [if_pos (dt (by rw [len_nat]; omega)), idx_nat, hx, Option.bind_some, Option.bind_some]
    unfold wirelesslaw51_sameSubs_j2
    rw [if_neg (by simp), w64_nat i (by omega)]) (by
    show wirelesslaw51_sameSubs_l1 F l l (l.length : Int) = _
    unfold wirelesslaw51_sameSubs_l1
    rw [if_neg (df (by rw [len_nat]; omega))]) F 0 (by omega) (by omega)
  rw [show ((0 : Nat) : Int) = 0 from rfl] at this
  rw [this]
  rfl
theorem low_refl (F : Nat) (l : T_api_LowPower) (hn : l.Subs.length ≤ 100000) (hF : 200000 < F) : wirelesslaw51_SameLow F l l = some true := by
  unfold wirelesslaw51_SameLow
  rw [if_pos (by simp), subs_refl F _ hn hF]
  rfl
theorem lower_refl (F : Nat) (a : T_api_Lower) : wirelessref50_SameLower F a a = some true := by
  unfold wirelessref50_SameLower wirelessref50_sameHead
  rw [Option.bind_some, if_pos (by simp), same_refl]
  rfl
theorem ofInt_nat (w a : Nat) (h : a < 2 ^ w) : (BitVec.ofInt w (a : Int)).toNat = a := by
  rw [BitVec.toNat_ofInt, ← Int.natCast_emod, Int.toNat_natCast, Nat.mod_eq_of_lt h]
theorem iand16 (x : Int) (h0 : 0 ≤ x) (h1 : x < 9223372036854775808) : iand .i64 x 65535 = x % 65536 := by
  obtain ⟨a, rfl⟩ := Int.eq_ofNat_of_zero_le h0
  unfold iand
  have e : (BitVec.ofInt IntKind.i64.bits (a : Int) &&& BitVec.ofInt IntKind.i64.bits 65535).toNat = a % 65536 := by
    rw [BitVec.toNat_and]
    show (BitVec.ofInt 64 (a : Int)).toNat &&& (BitVec.ofInt 64 ((65535 : Nat) : Int)).toNat = _
    rw [ofInt_nat 64 a (by omega), ofInt_nat 64 65535 (by decide), show (65535 : Nat) = 2 ^ 16 - 1 from by decide, Nat.and_two_pow_sub_one_eq_mod]
  rw [e, wrap_i64, w64_id (by omega) (by omega)]
  omega
theorem two_ok (F : Nat) (n : Int) : friend_two F n = some [n % 256, n / 256 % 256] := by
  unfold friend_two
  have : shrp n 8 = n / 256 := by
    unfold shrp
    rw [Int.fdiv_eq_ediv_of_nonneg _ (by decide)]
    rfl
  rw [this]
  rfl
theorem num_ok (F : Nat) (n : Int) (h0 : 0 ≤ n) (h1 : n < 65536) (hF : 5 < F) : wirelessref02_Num F 2 (wu64 n) = some [n % 256, n / 256 % 256] := by
  obtain ⟨F', rfl⟩ : ∃ F', F = F' + 1 + 1 + 1 := ⟨F - 3, by omega⟩
  have st : ∀ (n : Int) (l : List Int) (i : Int), 0 ≤ n → n < 65536 → l.length ≤ 10 → 0 ≤ i → i < 2 → wirelessref02_Num_l1 (F' + 1 + 1 + 1) 2 n l i = some (.next (n / 256, l ++ [n % 256], i + 1)) := by
    intro n l i h0 h1 hl hi0 hi
    unfold wirelessref02_Num_l1
    have e1 : wu8 (remp n 256) = n % 256 := by
      unfold remp
      rw [Int.tmod_eq_emod_of_nonneg h0, wu8_id (by omega) (by omega)]
    have e2 : quop .u64 n 256 = n / 256 := by
      unfold quop
      rw [Int.tdiv_eq_ediv_of_nonneg h0, wrap_u64, wu64_id (by omega) (by omega)]
    rw [if_pos (dt hi), e1, e2, app_small (by simp; omega) (by omega), Option.bind_some, w64_id (by omega) (by omega)]
  unfold wirelessref02_Num
  rw [wu64_id h0 (by omega), iter_step (body := fun s : Int × List Int × Int => wirelessref02_Num_l1 (F' + 1 + 1 + 1) 2 s.1 s.2.1 s.2.2) (st n [] 0 h0 h1 (by simp) (by omega) (by omega)), iter_step (body := fun s : Int × List Int × Int => wirelessref02_Num_l1 (F' + 1 + 1 + 1) 2 s.1 s.2.1 s.2.2) (st (n / 256) ([] ++ [n % 256]) (0 + 1) (by omega) (by omega) (by simp) (by omega) (by omega)), iter_stop (o := [n % 256, n / 256 % 256]) (by
    show wirelessref02_Num_l1 (F' + 1 + 1 + 1) 2 _ _ (0 + 1 + 1) = _
    unfold wirelessref02_Num_l1
    rw [if_neg (by decide)]
    rfl)]
  rfl
/-- What holds of every side that comes about. -/
structure J (l : T_api_LowPower) : Prop where
  c0 : 0 ≤ l.Counter
  c1 : l.Counter < 65536
  s : l.Subs.length ≤ 30
  e : ∀ x ∈ l.Subs, 0 ≤ x ∧ x < 65536
  t : 0 ≤ l.Told
  l0 : 0 ≤ l.Last
  l1 : l.Last ≤ 1099511627776
def sk (l : T_api_LowPower) (subs : List Int) (now : Int) : T_api_LowPower := T_api_LowPower.mk 1 0 0 (w64 (l.Counter + 1) % 65536) now 0 subs 0 false 0
theorem useek (F : Nat) {l : T_api_LowPower} (h : J l) (subs : List Int) (now : Int) (hs : subs.length ≤ 30) : friend_Seek F l subs now = some (sk l subs now) := by
  obtain ⟨c0, c1, _⟩ := h
  unfold friend_Seek
  rw [clone_ok F (by omega), Option.bind_some]
  unfold friend_Seek_j1 sk
  rw [iand16 _ (by rw [w64_id (by omega) (by omega)]; omega) (by rw [w64_id (by omega) (by omega)]; omega)]
theorem rseek (F : Nat) {l : T_api_LowPower} (h : J l) (subs : List Int) (now : Int) (hs : subs.length ≤ 30) : wirelessref51_Seek F l subs now = some (sk l subs now) := by
  obtain ⟨c0, c1, _⟩ := h
  unfold wirelessref51_Seek
  rw [app_small (by simp; omega) (by omega), Option.bind_some, List.nil_append]
  unfold wirelessref51_Seek_j1 sk
  unfold remp
  rw [Int.tmod_eq_emod_of_nonneg (by rw [w64_id (by omega) (by omega)]; omega)]
theorem jseek {l : T_api_LowPower} (h : J l) {subs : List Int} (now : Int) (hs : subs.length ≤ 30) (he : ∀ x ∈ subs, 0 ≤ x ∧ x < 65536) : J (sk l subs now) := by
  obtain ⟨c0, c1, _⟩ := h
  refine ⟨?_, ?_, hs, he, (show (0 : Int) ≤ 0 by decide), (show (0 : Int) ≤ 0 by decide), (show (0 : Int) ≤ 1099511627776 by decide)⟩
  · show 0 ≤ w64 (l.Counter + 1) % 65536
    omega
  · show w64 (l.Counter + 1) % 65536 < 65536
    omega
def lw (op : Int) (b : List Int) : T_api_Lower := T_api_Lower.mk true false false 0 0 0 op 0 false b
theorem tickj (F : Nat) {c : T_api_LowPower} (h : J c) (now : Int) (hF : 1000 < F) : ∃ r, friend_Tick_j1 F now c = some r ∧ wirelessref51_Tick_j1 F now c = some r ∧ J r.1 ∧ r.2.length ≤ 1 := by
  have h' := h
  obtain ⟨c0, c1, s, e, t, l0, l1⟩ := h
  unfold friend_Tick_j1 wirelessref51_Tick_j1
  by_cases h0 : ((c.Phase == 0) || (decide (c.Due > now))) = true
  · rw [if_pos h0, if_pos h0]
    exact ⟨_, rfl, rfl, h', by simp⟩
  · rw [if_neg h0, if_neg h0]
    have fin : ∀ (op : Int) (b : List Int), J ({ c with Due := w64 (now + 10), Tries := w64 (c.Tries + 1) }) := fun _ _ => ⟨c0, c1, s, e, t, l0, l1⟩
    have e0 : wirelessref51_message F 1 [wu8 c.Bit] = some [lw 1 [wu8 c.Bit]] := rfl
    rw [e0, Option.bind_some]
    by_cases h1 : (c.Phase == 1) = true
    · have h3 : (c.Phase == 3) = false := by
        have : c.Phase = 1 := by simpa using h1
        rw [this]
        rfl
      rw [if_pos h1, if_pos h1, two_ok, num_ok F c.Counter c0 c1 (by omega), Option.bind_some, Option.bind_some]
      have e1 : wirelessref51_message F 3 [c.Counter % 256, c.Counter / 256 % 256] = some [lw 3 [c.Counter % 256, c.Counter / 256 % 256]] := rfl
      rw [e1, Option.bind_some]
      unfold wirelessref51_Tick_j2
      rw [h3, if_neg (by simp)]
      exact ⟨_, rfl, rfl, fin 0 [], by simp⟩
    · rw [if_neg h1, if_neg h1]
      unfold wirelessref51_Tick_j2
      by_cases h3 : (c.Phase == 3) = true
      · rw [if_pos h3]
        unfold friend_known
        rw [Option.bind_some, Option.bind_some]
        by_cases hk : c.Told < len c.Subs
        · rw [decide_eq_false (show ¬ c.Told ≥ len c.Subs by omega), if_pos (by decide), if_pos (by rw [h3, dt hk]; rfl)]
          rw [len_nat] at hk
          obtain ⟨x, hx, hxm⟩ := idx_lt t (l := c.Subs) hk
          obtain ⟨x0, x1⟩ := e x (List.mem_of_getElem? hxm)
          rw [hx, Option.bind_some, Option.bind_some, w64_id (x := x) (by omega) (by omega), two_ok, num_ok F x x0 x1 (by omega), Option.bind_some, Option.bind_some]
          exact ⟨_, rfl, rfl, fin 0 [], by simp⟩
        · rw [decide_eq_true (show c.Told ≥ len c.Subs by omega), if_neg (by decide), if_neg (by rw [decide_eq_false hk, Bool.and_false]; decide)]
          exact ⟨_, rfl, rfl, fin 0 [], by simp⟩
      · rw [if_neg h3, Option.bind_some, if_neg (by decide), if_neg (by rw [(Bool.not_eq_true _).mp h3]; simp)]
        exact ⟨_, rfl, rfl, fin 0 [], by simp⟩
theorem tick_ok (F : Nat) {l : T_api_LowPower} (h : J l) (now : Int) (hn0 : 0 ≤ now) (hn1 : now ≤ 1099511627776) (hF : 1000 < F) : ∃ r, friend_Tick F l now = some r ∧ wirelessref51_Tick F l now = some r ∧ J r.1 ∧ r.2.length ≤ 1 := by
  have h' := h
  obtain ⟨c0, c1, s, e, t, l0, l1⟩ := h
  unfold friend_Tick wirelessref51_Tick
  have hz : (if (l.Phase == 3) = true then (wirelessref51_late F l.Last now).bind fun x_26 => some x_26 else some false) = some ((l.Phase == 3) && decide (now ≥ w64 (l.Last + 200))) := by
    by_cases h3 : (l.Phase == 3) = true
    · rw [if_pos h3, h3]
      unfold wirelessref51_late
      rw [Option.bind_some, w64_id (x := now - l.Last) (by omega) (by omega), w64_id (by omega) (by omega)]
      congr 1
      rw [Bool.true_and]
      exact decide_eq_decide.2 (by omega)
    · rw [if_neg h3, (Bool.not_eq_true _).mp h3]
      rfl
  rw [hz, Option.bind_some, clone_ok F (by omega), Option.bind_some]
  by_cases hq : (((l.Phase == 3) && (decide (now ≥ (w64 (l.Last + 200))))) || (((l.Phase == 2) && (decide (l.Due ≤ now))) && (decide (l.Tries ≥ 6)))) = true
  · rw [if_pos hq, if_pos hq, useek F (l := { l with Subs := l.Subs }) h' l.Subs now s, rseek F h' l.Subs now s, Option.bind_some, Option.bind_some]
    exact tickj F (jseek h' now s e) now hF
  · rw [if_neg hq, if_neg hq]
    exact tickj F h' now hF
theorem offer_ok (F : Nat) {l : T_api_LowPower} (h : J l) (a now : Int) (hn0 : 0 ≤ now) (hn1 : now ≤ 1099511627776) : ∃ r, friend_Offer F l a now = some r ∧ wirelessref51_Offer F l a now = some r ∧ J r := by
  have h' := h
  obtain ⟨c0, c1, s, e, t, l0, l1⟩ := h
  unfold friend_Offer wirelessref51_Offer
  have hz : netpdu_Node F a = wirelessref48_Node F a := by
    unfold netpdu_Node wirelessref48_Node
    congr 2
    exact decide_eq_decide.2 (by omega)
  rw [clone_ok F (by omega), Option.bind_some, hz]
  have hb : ∃ b, wirelessref48_Node F a = some b := ⟨_, rfl⟩
  obtain ⟨b, hb⟩ := hb
  rw [hb]
  by_cases h1 : (l.Phase != 1) = true
  · rw [if_pos h1, Option.bind_some, if_pos rfl]
    exact ⟨_, rfl, rfl, h'⟩
  · rw [if_neg h1, Option.bind_some, Option.bind_some]
    cases b with
    | false => exact ⟨_, rfl, rfl, h'⟩
    | true => exact ⟨_, rfl, rfl, ⟨c0, c1, s, e, (show (0 : Int) ≤ 0 by decide), hn0, hn1⟩⟩
theorem got_ok (F : Nat) {l : T_api_LowPower} (h : J l) (a : Int) (more : Bool) (now : Int) (hn0 : 0 ≤ now) (hn1 : now ≤ 1099511627776) : ∃ r, friend_Got F l a more now = some r ∧ wirelessref51_Got F l a more now = some r ∧ J r.1 := by
  have h' := h
  obtain ⟨c0, c1, s, e, t, l0, l1⟩ := h
  unfold friend_Got wirelessref51_Got
  rw [clone_ok F (by omega), Option.bind_some]
  by_cases hq : ((!((decide (l.Tries ≥ 1)) && ((l.Phase == 2) || ((l.Phase == 3) && (l.Told == (len l.Subs)))))) || (a != l.Friend)) = true
  · rw [if_pos hq, if_pos hq]
    exact ⟨_, rfl, rfl, h'⟩
  · rw [if_neg hq, if_neg hq]
    unfold friend_known
    have fin : ∀ d, J ({ l with Phase := 3, Bit := w64 (1 - l.Bit), Due := d, Tries := 0, Subs := l.Subs, More := more, Last := now }) := fun d => ⟨c0, c1, s, e, t, hn0, hn1⟩
    cases more with
    | true =>
      rw [if_neg (by decide), Option.bind_some, if_neg (by decide), if_pos (by simp)]
      exact ⟨_, rfl, rfl, fin _⟩
    | false =>
      rw [if_pos (by decide), Option.bind_some, Option.bind_some]
      by_cases hk : l.Told < len l.Subs
      · rw [if_neg (by show ¬ decide (l.Told ≥ len l.Subs) = true; exact df (by omega)), if_pos (by rw [dt hk]; rfl)]
        exact ⟨_, rfl, rfl, fin _⟩
      · rw [if_pos (by show decide (l.Told ≥ len l.Subs) = true; exact dt (by omega)), if_neg (by rw [decide_eq_false hk]; decide)]
        exact ⟨_, rfl, rfl, fin _⟩
theorem told_ok (F : Nat) {l : T_api_LowPower} (h : J l) (a gr now : Int) (hn0 : 0 ≤ now) (hn1 : now ≤ 1099511627776) : ∃ r, friend_Told F l a gr now = some r ∧ wirelessref51_Told F l a gr now = some r ∧ J r := by
  have h' := h
  obtain ⟨c0, c1, s, e, t, l0, l1⟩ := h
  unfold friend_Told wirelessref51_Told
  unfold friend_known
  rw [clone_ok F (by omega), Option.bind_some]
  by_cases h1 : ((l.Phase != 3) || (a != l.Friend)) = true
  · rw [if_pos h1, h1, Bool.true_or, Option.bind_some, if_pos rfl]
    exact ⟨_, rfl, rfl, h'⟩
  · rw [if_neg h1, (Bool.not_eq_true _).mp h1, Bool.false_or, Option.bind_some, Option.bind_some]
    by_cases hk : l.Told < len l.Subs
    · rw [if_neg (by show ¬ decide (l.Told ≥ len l.Subs) = true; exact df (by omega))]
      rw [len_nat] at hk
      obtain ⟨x, hx, hxm⟩ := idx_lt t (l := l.Subs) hk
      rw [hx, Option.bind_some]
      by_cases hg : (x != gr) = true
      · rw [hg]
        exact ⟨_, rfl, rfl, h'⟩
      · rw [(Bool.not_eq_true _).mp hg]
        refine ⟨_, rfl, rfl, ⟨c0, c1, s, e, ?_, hn0, hn1⟩⟩
        show 0 ≤ w64 (l.Told + 1)
        rw [w64_id (by omega) (by omega)]
        omega
    · rw [if_pos (by show decide (l.Told ≥ len l.Subs) = true; exact dt (by omega))]
      exact ⟨_, rfl, rfl, h'⟩
theorem ask_ok (F : Nat) {p : T_api_LowPower} (h : J p) (o : T_wirelesslaw51_Op) (hs : o.Subs.length ≤ 30) (he : ∀ x ∈ o.Subs, 0 ≤ x ∧ x < 65536) (hn0 : 0 ≤ o.Now) (hn1 : o.Now ≤ 1099511627776) (hF : 300000 < F) : ∃ q, wirelesslaw51_ask F p o = some (q, true) ∧ J q := by
  unfold wirelesslaw51_ask
  by_cases k0 : (o.Kind == 0) = true
  · rw [if_pos k0, useek F h _ _ hs, rseek F h _ _ hs, Option.bind_some, Option.bind_some, low_refl F _ (by show o.Subs.length ≤ _; omega) (by omega)]
    exact ⟨_, rfl, jseek h _ hs he⟩
  · rw [if_neg k0]
    by_cases k1 : (o.Kind == 1) = true
    · obtain ⟨r, h1, h2, h3, h4⟩ := tick_ok F h o.Now hn0 hn1 (by omega)
      rw [if_pos k1, h1, h2, Option.bind_some, Option.bind_some, if_neg (by simp)]
      have := iter_count (body := fun s : Int => wirelesslaw51_ask_l1 F r r s) (fun i => (i : Int)) r.2.length (.inl ()) (by
        intro i hi
        have hx : r.2[i]? = some r.2[i] := List.getElem?_eq_getElem hi
        show wirelesslaw51_ask_l1 F r r (i : Int) = _
        unfold wirelesslaw51_ask_l1
        rw [if_pos (dt (by rw [len_nat]; omega)), idx_nat, hx, Option.bind_some, Option.bind_some, lower_refl, Option.bind_some]
        unfold wirelesslaw51_ask_j6
        rw [if_neg (by decide), w64_nat i (by omega)]) (by
        show wirelesslaw51_ask_l1 F r r (r.2.length : Int) = _
        unfold wirelesslaw51_ask_l1
        rw [if_neg (df (by rw [len_nat]; omega))]) F 0 (by omega) (by omega)
      rw [show ((0 : Nat) : Int) = 0 from rfl] at this
      rw [this, Option.bind_some]
      simp only
      unfold wirelesslaw51_ask_j4
      rw [low_refl F _ (by have := h3.s; omega) (by omega)]
      exact ⟨_, rfl, h3⟩
    · rw [if_neg k1]
      by_cases k2 : (o.Kind == 2) = true
      · obtain ⟨r, h1, h2, h3⟩ := offer_ok F h o.Address o.Now hn0 hn1
        rw [if_pos k2, h1, h2, Option.bind_some, Option.bind_some, low_refl F _ (by have := h3.s; omega) (by omega)]
        exact ⟨_, rfl, h3⟩
      · rw [if_neg k2]
        by_cases k3 : (o.Kind == 3) = true
        · obtain ⟨r, h1, h2, h3⟩ := got_ok F h o.Address o.More o.Now hn0 hn1
          rw [if_pos k3, h1, h2, Option.bind_some, Option.bind_some, low_refl F _ (by have := h3.s; omega) (by omega), Option.bind_some]
          refine ⟨r.1, ?_, h3⟩
          unfold wirelesslaw51_ask_j8
          simp
        · rw [if_neg k3]
          unfold wirelesslaw51_ask_j1
          obtain ⟨r, h1, h2, h3⟩ := told_ok F h o.Address o.Group o.Now hn0 hn1
          rw [h1, h2, Option.bind_some, Option.bind_some, low_refl F _ (by have := h3.s; omega) (by omega)]
          exact ⟨_, rfl, h3⟩
def OOk (l : List T_wirelesslaw51_Op) : Prop := ∀ o ∈ l, ∀ x ∈ o.Subs, 0 ≤ x ∧ x < 65536
theorem asks_law (l : List T_wirelesslaw51_Op) (ho : OOk l) : wirelesslaw51_FriendAsks FF l = some true := by
  have hF : FF = 1125899906842624 := rfl
  unfold wirelesslaw51_FriendAsks
  rw [lives_ok]
  by_cases hl : len l > 200
  · rw [if_pos (dt hl)]
    rfl
  · rw [if_neg (df hl)]
    rw [len_nat] at hl
    obtain ⟨q, h1, rfl⟩ := iter_by (body := fun s : T_api_LowPower × Int × Int => wirelesslaw51_FriendAsks_l1 FF l s.1 s.2.1 s.2.2) (fun s => J s.1 ∧ 0 ≤ s.2.1 ∧ s.2.1 ≤ 1099511627776 ∧ ∃ i : Nat, s.2.2 = (i : Int) ∧ i ≤ l.length) (fun o => o = .inl ()) (fun s => l.length - s.2.2.toNat) (by
      rintro ⟨p, now, x⟩ ⟨hj, hn0, hn1, i, hx, hi⟩
      simp only at hj hn0 hn1 hx
      subst hx
      show (∃ s', wirelesslaw51_FriendAsks_l1 FF l p now (i : Int) = some (.next s') ∧ _) ∨ ∃ o, wirelesslaw51_FriendAsks_l1 FF l p now (i : Int) = some (.done o) ∧ _
      unfold wirelesslaw51_FriendAsks_l1
      by_cases hin : i < l.length
      · have hxa : l[i]? = some l[i] := List.getElem?_eq_getElem hin
        have hop := ho _ (List.getElem_mem hin)
        generalize l[i] = o at hxa hop
        rw [if_pos (dt (show (i : Int) < len l by rw [len_nat]; omega)), idx_nat, hxa, Option.bind_some]
        unfold wirelesslaw51_fits
        rw [Option.bind_some]
        by_cases hf : (((((decide ((len o.Subs) ≤ 30)) && (decide ((len o.Q.PDU.Payload) ≤ 50))) && (decide ((len o.Q.Lower.Bytes) ≤ 50))) && (decide (o.Now ≥ now))) && (decide (o.Now ≤ 1099511627776))) = true
        · have hf2 := hf
          simp only [Bool.and_eq_true, decide_eq_true_eq] at hf2
          obtain ⟨⟨⟨⟨f1, _⟩, _⟩, f2⟩, f3⟩ := hf2
          rw [len_nat] at f1
          obtain ⟨r, h1, h2⟩ := ask_ok FF hj o (by omega) hop (by omega) f3 (by omega)
          rw [hf, if_neg (by decide), Option.bind_some, Option.bind_some, h1, Option.bind_some]
          unfold wirelesslaw51_FriendAsks_j3 wirelesslaw51_FriendAsks_j2
          rw [if_neg (by simp), w64_nat i (by omega)]
          exact .inl ⟨_, rfl, ⟨h2, by simp only; omega, f3, i + 1, rfl, hin⟩, by simp only [Int.toNat_natCast]; omega⟩
        · rw [(Bool.not_eq_true _).mp hf, if_pos (by decide)]
          unfold wirelesslaw51_FriendAsks_j2
          rw [w64_nat i (by omega)]
          exact .inl ⟨_, rfl, ⟨hj, hn0, hn1, i + 1, rfl, hin⟩, by simp only [Int.toNat_natCast]; omega⟩
      · rw [if_neg (df (show ¬ (i : Int) < len l by rw [len_nat]; omega))]
        exact .inr ⟨_, rfl, rfl⟩) FF (T_api_LowPower.mk 0 0 0 0 0 0 [] 0 false 0, 0, 0) ⟨⟨by decide, by decide, by simp, by simp, by decide, by decide, by decide⟩, by decide, by decide, 0, rfl, by omega⟩ (by simp only; omega)
    rw [h1, Option.bind_some]
    unfold wirelesslaw51_FriendAsks_j1
    simp only
    rw [lives_ok]
    rfl
end V
end Go.Proofs.Ytphigebccfoppaa
