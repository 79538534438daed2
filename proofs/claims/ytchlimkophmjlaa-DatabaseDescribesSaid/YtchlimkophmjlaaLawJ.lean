/-
  What Build returns is valid.
-/
import Derived.Test.YtchlimkophmjlaaLawH
import Derived.Test.YtchlimkophmjlaaLawC
namespace Go.Proofs.Ytchlimkophmjlaa
namespace V
theorem chs_ok {u : T_api_UUID} {props perms : Int} {v : List Int} (h : chs u props perms v = 0) : resv u = false ∧ 0 ≤ props ∧ props ≤ 255 ∧ 0 ≤ perms ∧ perms ≤ 15 ∧ v.length ≤ 512 := by
  unfold chs at h
  by_cases h1 : resv u = true
  · rw [if_pos h1] at h; cases h
  · rw [if_neg h1] at h
    by_cases h2 : (((decide (props < 0) || decide (props > 255)) || decide (perms < 0)) || decide (perms > 15)) = true
    · rw [if_pos h2] at h; cases h
    · rw [if_neg h2] at h
      by_cases h3 : decide (len v > 512) = true
      · rw [if_pos h3] at h; cases h
      · have h4 : ¬ len v > 512 := fun h => h3 (dt h)
        rw [len_nat] at h4
        simp only [Bool.or_eq_true, decide_eq_true_eq] at h2
        exact ⟨(Bool.not_eq_true _).mp h1, by omega, by omega, by omega, by omega, by omega⟩
theorem resv_not {u : T_api_UUID} (h : resv u = false) : isv u = false ∧ decl u = false ∧ isN u 10243 = false ∧ isN u 10498 = false := by
  unfold resv at h
  rw [Bool.or_eq_false_iff] at h
  obtain ⟨h1, h2⟩ := h
  have h3 := h1
  unfold decl at h3
  rw [Bool.or_eq_false_iff, Bool.or_eq_false_iff] at h3
  exact ⟨h3.1, h1, h3.2.2, h2⟩
/-! ### The attributes, by place -/
def at1 (first : Int) (n : Nat) (u : T_api_UUID) (p : Int) (v : List Int) : T_api_Attribute := T_api_Attribute.mk (hdl first n) u p v
def mrL (first : Int) : Nat → List T_api_Attribute → List T_api_Attribute
  | _, [] => []
  | n, d :: r => at1 first n d.f_Type d.Perms d.Value :: mrL first (n + 1) r
def cfn (c : T_api_Char) : Nat := if cfg c = true then 1 else 0
def cfL (first : Int) (n : Nat) (c : T_api_Char) : List T_api_Attribute := if cfg c = true then [at1 first n (sht 10498) 3 [0, 0]] else []
def chL (first : Int) (n : Nat) (c : T_api_Char) : List T_api_Attribute := at1 first n (sht 10243) 1 (cval first n c) :: at1 first (n + 1) c.f_Type c.Perms c.Value :: (cfL first (n + 2) c ++ mrL first (n + 2 + cfn c) c.More)
def csL (first : Int) : Nat → List T_api_Char → List T_api_Attribute
  | _, [] => []
  | n, c :: r => chL first n c ++ csL first (n + cat c) r
def svL (first : Int) (n : Nat) (s : T_api_Service) : List T_api_Attribute := at1 first n (sht (knd s)) 1 (encU s.f_Type) :: csL first (n + 1) s.Chars
def ssL (first : Int) : Nat → List T_api_Service → List T_api_Attribute
  | _, [] => []
  | n, s :: r => svL first n s ++ ssL first (n + sat s) r
theorem mor_fold (first : Int) : ∀ (l db : List T_api_Attribute), l.foldl (mor first) db = db ++ mrL first db.length l
  | [], db => by simp [mrL]
  | d :: r, db => by
    rw [List.foldl_cons, mor_fold first r, mor_len, mrL]
    unfold mor adS at1
    rw [List.append_assoc]
    rfl
theorem chr_eq (first : Int) (db : List T_api_Attribute) (c : T_api_Char) : chr first db c = db ++ chL first db.length c := by
  unfold chr chL
  rw [mor_fold, hedc_len]
  unfold hedc hed cfL cfn
  by_cases h : cfg c = true
  · rw [if_pos h, if_pos h, if_pos h]
    unfold adS at1
    simp only [List.length_append, List.length_singleton, List.append_assoc, List.cons_append, List.nil_append]
    rfl
  · rw [if_neg h, if_neg h, if_neg h]
    unfold adS at1
    simp only [List.length_append, List.length_singleton, List.append_assoc, List.cons_append, List.nil_append]
theorem chr_fold (first : Int) : ∀ (l : List T_api_Char) (db : List T_api_Attribute), l.foldl (chr first) db = db ++ csL first db.length l
  | [], db => by simp [csL]
  | d :: r, db => by rw [List.foldl_cons, chr_fold first r, chr_len, csL, chr_eq, List.append_assoc]
theorem svc_eq (first : Int) (db : List T_api_Attribute) (s : T_api_Service) : svc first db s = db ++ svL first db.length s := by
  unfold svc svL svh
  rw [chr_fold, adS_len]
  unfold adS at1
  rw [List.append_assoc]
  rfl
theorem svc_fold (first : Int) : ∀ (l : List T_api_Service) (db : List T_api_Attribute), l.foldl (svc first) db = db ++ ssL first db.length l
  | [], db => by simp [ssL]
  | d :: r, db => by rw [List.foldl_cons, svc_fold first r, svc_len, ssL, svc_eq, List.append_assoc]
theorem bld_eq (first : Int) (l : List T_api_Service) : bld first l = ssL first 0 l := by
  unfold bld
  rw [svc_fold]
  rfl
theorem foldl_inv {α β : Type} (P : β → Prop) (f : β → α → β) : ∀ (l : List α) (b : β), (∀ b x, x ∈ l → P b → P (f b x)) → P b → P (l.foldl f b)
  | [], _, _, hb => hb
  | x :: l, b, h, hb => by
    rw [List.foldl_cons]
    exact foldl_inv P f l _ (fun b y hy => h b y (by simp [hy])) (h b x (by simp) hb)
/-- Handles in a row; every attribute is fine by itself. -/
structure Seq (first : Int) (db : List T_api_Attribute) : Prop where
  h : ∀ (i : Nat) a, db[i]? = some a → a.Handle = hdl first i
  a : ∀ a ∈ db, AOk a ∧ 0 ≤ a.Perms ∧ a.Perms ≤ 15 ∧ a.Value.length ≤ 512
theorem hdl_rng (first : Int) (n : Nat) : 0 ≤ hdl first n ∧ hdl first n < 65536 := by unfold hdl wu16; omega
theorem adS_seq {first : Int} {db : List T_api_Attribute} (h : Seq first db) {u : T_api_UUID} {p : Int} {v : List Int} (hu : UOk u) (h0 : 0 ≤ p) (h1 : p ≤ 15) (hv : v.length ≤ 512) (hb : ∀ x ∈ v, Byte x) : Seq first (adS first db u p v) := by
  refine ⟨?_, ?_⟩
  · intro i a ha
    unfold adS at ha
    by_cases hi : i < db.length
    · rw [List.getElem?_append_left hi] at ha
      exact h.h i a ha
    · rw [List.getElem?_append_right (by omega)] at ha
      have hi2 : i = db.length := by
        have := (List.getElem?_eq_some_iff.1 ha).1
        simp at this
        omega
      subst hi2
      simp at ha
      rw [← ha]
  · intro a ha
    rcases List.mem_append.1 ha with ha | ha
    · exact h.a a ha
    · simp at ha
      rw [ha]
      have := hdl_rng first db.length
      exact ⟨⟨this.1, this.2, hu, hb, by simp only; omega⟩, h0, h1, hv⟩
theorem cval_byte (first : Int) (n : Nat) (c : T_api_Char) : ∀ x ∈ cval first n c, Byte x := by
  intro x hx
  unfold cval at hx
  rcases List.mem_append.1 hx with hx | hx
  · rcases List.mem_cons.1 hx with rfl | hx
    · unfold Byte wu8; omega
    · exact leb_byte _ _ x hx
  · exact encU_byte _ x hx
theorem cval_len (first : Int) (n : Nat) (c : T_api_Char) : (cval first n c).length ≤ 19 := by
  have := encU_len c.f_Type
  unfold cval
  rw [List.length_append, List.length_cons, leb_length]
  omega
theorem chr_seq {first : Int} {db : List T_api_Attribute} (h : Seq first db) {c : T_api_Char} (hc : COk c) (hk : Cok c) : Seq first (chr first db c) := by
  have hck := chs_ok hk.k
  unfold chr
  refine foldl_inv (Seq first) (mor first) c.More _ ?_ ?_
  · intro b d hd hb
    have hdo := hc.m d hd
    have hdk := chs_ok (hk.m d hd)
    exact adS_seq hb hdo.u hdk.2.2.2.1 hdk.2.2.2.2.1 hdk.2.2.2.2.2 hdo.b
  · have h1 : Seq first (hed first db c) := by
      unfold hed
      refine adS_seq (adS_seq h (sht_ok (by decide) (by decide)) (by decide) (by decide) ?_ (cval_byte _ _ _)) hc.u hck.2.2.2.1 hck.2.2.2.2.1 hck.2.2.2.2.2 hc.b
      have := cval_len first db.length c
      omega
    unfold hedc
    by_cases hg : cfg c = true
    · rw [if_pos hg]
      exact adS_seq h1 (sht_ok (by decide) (by decide)) (by decide) (by decide) (by decide) (by intro x hx; simp at hx; subst hx; exact ⟨by decide, by decide⟩)
    · rw [if_neg hg]
      exact h1
theorem knd_rng (s : T_api_Service) : 0 ≤ knd s ∧ knd s < 65536 := by
  unfold knd
  by_cases h : s.Primary = true
  · rw [if_pos h]; omega
  · rw [if_neg h]; omega
theorem bld_seq (first : Int) (l : List T_api_Service) (ho : ∀ s ∈ l, SOk s) (hk : ∀ s ∈ l, Sok s) : Seq first (bld first l) := by
  unfold bld
  refine foldl_inv (Seq first) (svc first) l _ ?_ ⟨by simp, by simp⟩
  intro b s hs hb
  unfold svc
  refine foldl_inv (Seq first) (chr first) s.Chars _ ?_ ?_
  · intro b c hc hb
    exact chr_seq hb ((ho s hs).c c hc) (hk s hs c hc)
  · unfold svh
    have := encU_len s.f_Type
    have hr := knd_rng s
    exact adS_seq hb (sht_ok hr.1 hr.2) (by decide) (by decide) (by omega) (encU_byte _)

/-! ### Encoded and decoded -/
theorem decU_encU {u : T_api_UUID} (hu : UOk u) : decU (encU u) = (u, 0) := by
  obtain ⟨h0, h1, l0, l1⟩ := hu
  have hr := numb_rng ⟨h0, h1, l0, l1⟩
  unfold encU
  by_cases h : (numb u).2 = true
  · rw [if_pos h]
    unfold decU
    rw [if_pos (leb_length 2 _), num_leb, show (256 : Int) ^ 2 = 65536 from rfl, Int.emod_eq_of_lt hr.1 hr.2]
    unfold numb at h ⊢
    by_cases hn : u.Low = 9223372588214596859 ∧ u.High % 4294967296 = 4096 ∧ u.High / 4294967296 < 65536
    · rw [if_pos hn]
      obtain ⟨n1, n2, n3⟩ := hn
      cases u with
      | mk hi lo =>
        simp only at n1 n2 n3 ⊢
        unfold sht
        rw [n1, show hi / 4294967296 * 4294967296 + 4096 = hi from by omega]
    · rw [if_neg hn] at h; cases h
  · rw [if_neg h]
    unfold decU
    have hl : (leb 8 u.Low ++ leb 8 u.High).length = 16 := by rw [List.length_append, leb_length, leb_length]
    have hd : (leb 8 u.Low ++ leb 8 u.High).drop 8 = leb 8 u.High := by
      have := List.drop_left (l₁ := leb 8 u.Low) (l₂ := leb 8 u.High)
      rw [leb_length] at this
      exact this
    have ht : (leb 8 u.Low ++ leb 8 u.High).take 8 = leb 8 u.Low := by
      have := List.take_left (l₁ := leb 8 u.Low) (l₂ := leb 8 u.High)
      rw [leb_length] at this
      exact this
    rw [hl, if_neg (by decide), if_neg (by decide), if_neg (by decide), hd, ht, num_leb, num_leb, show (256 : Int) ^ 8 = 18446744073709551616 from rfl, Int.emod_eq_of_lt h0 h1, Int.emod_eq_of_lt l0 l1]
    rw [if_neg h]
theorem prt_cval (first : Int) (n : Nat) {c : T_api_Char} (hc : UOk c.f_Type) : prt (cval first n c) = (wu8 c.Props, (first + (n : Int) + 1) % 65536, c.f_Type, true) := by
  have h1 := num_leb 2 (first + (n : Int) + 1)
  rw [show (256 : Int) ^ 2 = 65536 from rfl] at h1
  have hd : (cval first n c).drop 3 = encU c.f_Type := by
    unfold cval
    simp [leb]
  have ht : ((cval first n c).drop 1).take 2 = leb 2 (first + (n : Int) + 1) := by
    unfold cval
    simp [leb]
  have hh : num ((cval first n c).take 1) = wu8 c.Props := by
    unfold cval
    simp [num]
  unfold prt
  rw [if_neg (by unfold cval; rw [List.length_append, List.length_cons, leb_length]; omega), hh, ht, hd, h1, decU_encU hc]
  rfl

/-! ### Nothing is wrong -/
def cwn (a : T_api_Attribute) (nx : Option T_api_Attribute) : Bool := match nx with
  | none => true
  | some b => (!(prt a.Value).2.2.2 || resv (prt a.Value).2.2.1) || (b.Handle != (prt a.Value).2.1 || !(b.f_Type.High == (prt a.Value).2.2.1.High && b.f_Type.Low == (prt a.Value).2.2.1.Low))
def wrn (z : Bool) (p : T_database_place) (a : T_api_Attribute) (nx : Option T_api_Attribute) : Bool :=
  if ((z && !isv a.f_Type) || (decl a.f_Type && (iand .i64 a.Perms 2 != 0))) = true then true
  else if isv a.f_Type = true then (decU a.Value).2 != 0
  else if isN a.f_Type 10243 = true then cwn a nx
  else if isN a.f_Type 10498 = true then ((len a.Value != 2 || !p.char) || p.config)
  else false
theorem wrg_wr (db : List T_api_Attribute) (i : Nat) (p : T_database_place) (a : T_api_Attribute) : wrg db i p a = wrn ((i : Int) == 0) p a db[i + 1]? := rfl
def okL : Bool → T_database_place → List T_api_Attribute → Prop
  | _, _, [] => True
  | z, p, a :: r => wrn z p a r[0]? = false ∧ okL false (stepP p a.f_Type) r
theorem okL_at : ∀ (l : List T_api_Attribute) (z : Bool) (p : T_database_place) (i : Nat) (a : T_api_Attribute), okL z p l → l[i]? = some a → wrn (decide (i = 0) && z) ((l.take i).foldl (fun p a => stepP p a.f_Type) p) a l[i + 1]? = false
  | [], _, _, i, a, _, h => by simp at h
  | b :: r, z, p, 0, a, ho, h => by
    simp at h
    subst h
    simpa using ho.1
  | b :: r, z, p, i + 1, a, ho, h => by
    have := okL_at r false (stepP p b.f_Type) i a ho.2 (by simpa using h)
    simpa using this
theorem wr_plain {p : T_database_place} {a : T_api_Attribute} {nx : Option T_api_Attribute} (h : resv a.f_Type = false) : wrn false p a nx = false := by
  obtain ⟨h1, h2, h3, h4⟩ := resv_not h
  unfold wrn
  rw [h1, h2, h3, h4]
  rfl
theorem step_plain {p : T_database_place} {u : T_api_UUID} (h : resv u = false) : stepP p u = p := by
  obtain ⟨h1, h2, h3, h4⟩ := resv_not h
  unfold stepP
  rw [h1, h3, h4]
  rfl
theorem ok_more (first : Int) : ∀ (l : List T_api_Attribute) (n : Nat) (p : T_database_place) (suf : List T_api_Attribute), (∀ d ∈ l, resv d.f_Type = false) → okL false p suf → okL false p (mrL first n l ++ suf)
  | [], _, _, _, _, h => h
  | d :: r, n, p, suf, hr, h => by
    have hd := hr d (by simp)
    refine ⟨wr_plain hd, ?_⟩
    show okL false (stepP p d.f_Type) (mrL first (n + 1) r ++ suf)
    rw [step_plain hd]
    exact ok_more first r (n + 1) p suf (fun e he => hr e (by simp [he])) h
theorem is_ch : isv (sht 10243) = false ∧ isN (sht 10243) 10243 = true := by
  unfold isv
  rw [isN_sh, isN_sh, isN_sh]
  decide
theorem is_cf : isv (sht 10498) = false ∧ isN (sht 10498) 10243 = false ∧ isN (sht 10498) 10498 = true ∧ decl (sht 10498) = false := by
  unfold decl isv
  rw [isN_sh, isN_sh, isN_sh, isN_sh, isN_sh]
  decide
theorem is_sv (s : T_api_Service) : isv (sht (knd s)) = true := by
  unfold isv knd
  rw [isN_sh, isN_sh]
  by_cases h : s.Primary = true
  · rw [if_pos h]; decide
  · rw [if_neg h]; decide
theorem perm1 : (iand .i64 1 2 != 0) = false := by rfl
theorem ok_char (first : Int) (n : Nat) (p : T_database_place) {c : T_api_Char} (hc : COk c) (hk : Cok c) (suf : List T_api_Attribute) (h : ∀ p', okL false p' suf) : okL false p (chL first n c ++ suf) := by
  have hck := chs_ok hk.k
  have hr := hck.1
  unfold chL
  refine ⟨?_, ?_, ?_⟩
  · unfold wrn
    show (if (false && !isv (sht 10243) || decl (sht 10243) && (iand .i64 1 2 != 0)) = true then true else if isv (sht 10243) = true then _ else if isN (sht 10243) 10243 = true then cwn (at1 first n (sht 10243) 1 (cval first n c)) (some (at1 first (n + 1) c.f_Type c.Perms c.Value)) else _) = false
    rw [is_ch.1, is_ch.2, perm1, if_neg (by simp), if_neg (by decide), if_pos rfl]
    unfold cwn
    show ((!(prt (cval first n c)).2.2.2 || resv (prt (cval first n c)).2.2.1) || (hdl first (n + 1) != (prt (cval first n c)).2.1 || !(c.f_Type.High == (prt (cval first n c)).2.2.1.High && c.f_Type.Low == (prt (cval first n c)).2.2.1.Low))) = false
    rw [prt_cval first n hc.u]
    simp only
    rw [hr, show hdl first (n + 1) = (first + (n : Int) + 1) % 65536 from by unfold hdl wu16; omega]
    simp
  · exact wr_plain hr
  · show okL false (stepP (stepP p (sht 10243)) c.f_Type) (cfL first (n + 2) c ++ mrL first (n + 2 + cfn c) c.More ++ suf)
    have hp : stepP p (sht 10243) = T_database_place.mk true false := by
      unfold stepP
      rw [is_ch.1, is_ch.2]
      rfl
    rw [step_plain hr, hp, List.append_assoc]
    have hm : ∀ d ∈ c.More, resv d.f_Type = false := fun d hd => (chs_ok (hk.m d hd)).1
    unfold cfL
    by_cases hg : cfg c = true
    · rw [if_pos hg]
      refine ⟨?_, ok_more first _ _ _ _ hm (h _)⟩
      unfold wrn
      show (if (false && !isv (sht 10498) || decl (sht 10498) && (iand .i64 3 2 != 0)) = true then true else if isv (sht 10498) = true then _ else if isN (sht 10498) 10243 = true then _ else if isN (sht 10498) 10498 = true then _ else _) = false
      rw [is_cf.1, is_cf.2.1, is_cf.2.2.1, is_cf.2.2.2]
      rfl
    · rw [if_neg hg]
      exact ok_more first _ _ _ _ hm (h _)
theorem ok_chars (first : Int) : ∀ (l : List T_api_Char) (n : Nat) (p : T_database_place) (suf : List T_api_Attribute), (∀ c ∈ l, COk c) → (∀ c ∈ l, Cok c) → (∀ p', okL false p' suf) → okL false p (csL first n l ++ suf)
  | [], _, _, _, _, _, h => h _
  | c :: r, n, p, suf, hc, hk, h => by
    rw [csL, List.append_assoc]
    exact ok_char first n p (hc c (by simp)) (hk c (by simp)) _ fun p' => ok_chars first r _ p' suf (fun e he => hc e (by simp [he])) (fun e he => hk e (by simp [he])) h
theorem ok_svs (first : Int) : ∀ (l : List T_api_Service) (n : Nat) (z : Bool) (p : T_database_place), (∀ s ∈ l, SOk s) → (∀ s ∈ l, Sok s) → okL z p (ssL first n l)
  | [], _, _, _, _, _ => trivial
  | s :: r, n, z, p, hs, hk => by
    rw [ssL]
    unfold svL
    have hso := hs s (by simp)
    refine ⟨?_, ok_chars first _ _ _ _ (hso.c) (hk s (by simp)) fun p' => ok_svs first r _ false p' (fun e he => hs e (by simp [he])) (fun e he => hk e (by simp [he]))⟩
    unfold wrn
    show (if (z && !isv (sht (knd s)) || decl (sht (knd s)) && (iand .i64 1 2 != 0)) = true then true else if isv (sht (knd s)) = true then (decU (encU s.f_Type)).2 != 0 else _) = false
    rw [is_sv, perm1, if_neg (by simp), if_pos rfl, decU_encU hso.u]
    rfl
theorem hdl_id {first : Int} {n : Nat} (h0 : 0 ≤ first) (h : first + (n : Int) < 65536) : hdl first n = first + n := by unfold hdl; rw [wu16_id (by omega) h]
theorem ucheck0 (F : Nat) (first : Int) (h0 : 0 < first) (db : List T_api_Attribute) (hs : Seq first db) (hk : okL true (T_database_place.mk false false) db) (hl : db.length ≤ 1000) (hb : first + (db.length : Int) ≤ 65536) (hF : 2000 < F) : database_Check F db = some 0 := by
  unfold database_Check
  rw [if_neg (df (show ¬ len db > 1000 by rw [len_nat]; omega))]
  have := iter_count (body := fun s : Int × T_database_place × Int => database_Check_l1 F db s.1 s.2.1 s.2.2) (fun i => ((if i = 0 then 0 else first + (i : Int) - 1), plc (db.take i), (i : Int))) db.length (.inl ()) (by
    intro i hi
    have hxa : db[i]? = some db[i] := List.getElem?_eq_getElem hi
    have ha := hs.a _ (List.getElem_mem hi)
    generalize db[i] = a at hxa ha
    obtain ⟨ha, ha1, ha2, ha3⟩ := ha
    have hh := hs.h i a hxa
    rw [hdl_id (by omega) (by omega)] at hh
    show database_Check_l1 F db (if i = 0 then 0 else first + (i : Int) - 1) (plc (db.take i)) (i : Int) = _
    unfold database_Check_l1
    have hw : wrg db i (plc (db.take i)) a = false := by
      rw [wrg_wr]
      have := okL_at db true _ i a hk hxa
      rw [Bool.and_true] at this
      have e : ((i : Int) == 0) = decide (i = 0) := by
        by_cases h : i = 0
        · subst h; rfl
        · rw [decide_eq_false h, beq_false_of_ne (by omega)]
      rw [e]
      exact this
    rw [if_pos (dt (show (i : Int) < len db by rw [len_nat]; omega)), idx_nat, hxa, Option.bind_some, if_neg (df (by
      rw [hh]
      by_cases h : i = 0
      · rw [if_pos h]; omega
      · rw [if_neg h]; omega)), if_neg (by rw [decide_eq_false (show ¬ a.Perms < 0 by omega), decide_eq_false (show ¬ a.Perms > 15 by omega)]; decide), if_neg (df (show ¬ len a.Value > 512 by rw [len_nat]; omega)), uwrong F _ hxa (by omega) ha (by omega), Option.bind_some, hw, if_neg (by decide), service_ok F ha.u (by omega), Option.bind_some, is1 F ha.u 10243 (by omega) (by decide) (by decide), is1 F ha.u 10498 (by omega) (by decide) (by decide), Option.bind_some, Option.bind_some]
    have ht : plc (db.take (i + 1)) = stepP (plc (db.take i)) a.f_Type := by
      rw [List.take_add_one, hxa]
      exact plc_snoc _ _
    rw [ht, if_neg (show ¬ i + 1 = 0 by omega), hh, show first + ((i + 1 : Nat) : Int) - 1 = first + (i : Int) from by omega]
    unfold stepP database_Check_j2
    rw [w64_nat i (by omega)]
    by_cases c1 : isv a.f_Type = true
    · rw [if_pos c1, if_pos c1]
    · rw [if_neg c1, if_neg c1]
      by_cases c2 : isN a.f_Type 10243 = true
      · rw [if_pos c2, if_pos c2]
      · rw [if_neg c2, if_neg c2]
        by_cases c3 : isN a.f_Type 10498 = true
        · rw [if_pos c3, if_pos c3]
        · rw [if_neg c3, if_neg c3]) (by
    show database_Check_l1 F db _ _ (db.length : Int) = _
    unfold database_Check_l1
    rw [if_neg (df (by rw [len_nat]; omega))]) F 0 (by omega) (by omega)
  rw [if_pos rfl, List.take_zero] at this
  rw [show plc [] = T_database_place.mk false false from rfl, show ((0 : Nat) : Int) = 0 from rfl] at this
  rw [this]
  rfl
end V
end Go.Proofs.Ytchlimkophmjlaa
