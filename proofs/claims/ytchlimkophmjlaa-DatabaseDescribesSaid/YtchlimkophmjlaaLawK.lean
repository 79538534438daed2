/-
  Found of what Build returns: its services and characteristics.
-/
import Derived.Test.YtchlimkophmjlaaLawJ
namespace Go.Proofs.Ytchlimkophmjlaa
namespace V
theorem iter_fold2 {S O α β : Type} {body : S → Option (Out S O)} (l : List α) (f : β → α → β) (st : β → Nat → S) (o : β → O) (I : Nat → β → Prop)
    (h : ∀ (i : Nat) x b, l[i]? = some x → I i b → body (st b i) = some (.next (st (f b x) (i + 1))) ∧ I (i + 1) (f b x))
    (hd : ∀ b, I l.length b → body (st b l.length) = some (.done (o b))) :
    ∀ (F i : Nat) (b : β), i ≤ l.length → I i b → l.length - i < F → iter body F (st b i) = some (o ((l.drop i).foldl f b))
  | 0, i, b, _, _, hF => by omega
  | F + 1, i, b, hi, hI, hF => by
    by_cases hin : i < l.length
    · have hx : l[i]? = some l[i] := List.getElem?_eq_getElem hin
      have hdr : l.drop i = l[i] :: l.drop (i + 1) := List.drop_eq_getElem_cons hin
      obtain ⟨h1, h2⟩ := h i _ b hx hI
      rw [iter_step h1, iter_fold2 l f st o I h hd F (i + 1) _ hin h2 (by omega), hdr, List.foldl_cons]
    · have : i = l.length := by omega
      subst this
      rw [iter_stop (hd b hI), List.drop_length]
      rfl
theorem iter_rest {S O α β : Type} {body : S → Option (Out S O)} (l : List α) (st : β → Nat → S) (o : β → O) (I : List α → β → Prop)
    (h : ∀ (i : Nat) x r b, l[i]? = some x → I (x :: r) b → ∃ b', body (st b i) = some (.next (st b' (i + 1))) ∧ I r b')
    (hd : ∀ b, I [] b → body (st b l.length) = some (.done (o b))) :
    ∀ (F i : Nat) (b : β), i ≤ l.length → I (l.drop i) b → l.length - i < F → ∃ b', iter body F (st b i) = some (o b') ∧ I [] b'
  | 0, i, b, _, _, hF => by omega
  | F + 1, i, b, hi, hI, hF => by
    by_cases hin : i < l.length
    · have hx : l[i]? = some l[i] := List.getElem?_eq_getElem hin
      have hdr : l.drop i = l[i] :: l.drop (i + 1) := List.drop_eq_getElem_cons hin
      rw [hdr] at hI
      obtain ⟨b', h1, h2⟩ := h i _ _ b hx hI
      rw [iter_step h1]
      exact iter_rest l st o I h hd F (i + 1) b' hin h2 (by omega)
    · have : i = l.length := by omega
      subst this
      rw [List.drop_length] at hI
      exact ⟨b, iter_stop (hd b hI), hI⟩
/-- What Found says of an attribute. -/
def dsc (b : List Int) : Int × Int × T_api_UUID × Bool := if (prt b).2.2.2 = true then prt b else (0, 0, UZ, false)
def ent (G : Int → Int × Bool) (a : T_api_Attribute) : T_api_Found :=
  if isv a.f_Type = true then T_api_Found.mk a.Handle (G a.Handle).1 0 0 (decU a.Value).1
  else if isN a.f_Type 10243 = true then T_api_Found.mk a.Handle 0 (dsc a.Value).2.1 (dsc a.Value).1 (dsc a.Value).2.2.1
  else T_api_Found.mk a.Handle 0 0 0 a.f_Type
def fdd (G : Int → Int × Bool) (b : List T_api_Found × Bool) (a : T_api_Attribute) : List T_api_Found × Bool := (if b.2 = true then b.1 else b.1 ++ [ent G a], isN a.f_Type 10243)
def pcAt (db : List T_api_Attribute) : Nat → Bool
  | 0 => false
  | k + 1 => match db[k]? with
    | some a => isN a.f_Type 10243
    | none => false
theorem pcAt_succ {db : List T_api_Attribute} {k : Nat} {a : T_api_Attribute} (h : db[k]? = some a) : pcAt db (k + 1) = isN a.f_Type 10243 := by
  show (match db[k]? with
    | some a => isN a.f_Type 10243
    | none => false) = _
  rw [h]
theorem ufound (F : Nat) (db : List T_api_Attribute) (hdb : ∀ a ∈ db, AOk a) (hn : db.length ≤ 100000) (hF : db.length + 20 < F) : database_Found F db = some (db.foldl (fdd (grp db)) ([], false)).1 := by
  unfold database_Found
  have := iter_fold2 (body := fun s : List T_api_Found × Int => database_Found_l1 F db s.1 s.2) db (fdd (grp db)) (fun b i => (b.1, (i : Int))) (fun b => b.1) (fun i b => b.1.length ≤ i ∧ b.2 = pcAt db i) (by
    rintro i a ⟨l, pc⟩ hx ⟨hl, hpc⟩
    simp only at hl hpc
    have hi := (List.getElem?_eq_some_iff.1 hx).1
    have ha := hdb a (List.mem_of_getElem? hx)
    refine ⟨?_, ?_, ?_⟩
    · show database_Found_l1 F db l (i : Int) = some (.next ((if pc = true then l else l ++ [ent (grp db) a]), ((i + 1 : Nat) : Int)))
      unfold database_Found_l1
      rw [if_pos (dt (show (i : Int) < len db by rw [len_nat]; omega)), idx_nat, hx, Option.bind_some]
      have hz : (if decide ((i : Int) > 0) = true then (idx db (w64 ((i : Int) - 1))).bind fun x_22 => (database_is F x_22.f_Type [10243]).bind fun x_23 => some x_23 else some false) = some pc := by
        cases i with
        | zero => rw [hpc]; rfl
        | succ k =>
          have hxk : db[k]? = some db[k] := List.getElem?_eq_getElem (by omega)
          have hak := hdb _ (List.getElem_mem (show k < db.length by omega))
          generalize db[k] = b at hxk hak
          rw [if_pos (dt (by omega)), w64_id (by omega) (by omega), show ((k + 1 : Nat) : Int) - 1 = (k : Int) from by omega, idx_nat, hxk, Option.bind_some, is1 F hak.u 10243 (by omega) (by decide) (by decide), Option.bind_some, hpc, pcAt_succ hxk]
      rw [hz, Option.bind_some]
      have hj : ∀ c : T_api_Found, c.Handle = a.Handle → database_Found_j3 F l (i : Int) a c = some (.next (l ++ [c], ((i + 1 : Nat) : Int))) := by
        intro c hc
        unfold database_Found_j3
        rw [app_small (by simp; omega) (by omega), Option.bind_some]
        unfold database_Found_j2
        rw [w64_nat i (by omega)]
        cases c
        simp only at hc
        subst hc
        rfl
      cases pc with
      | true =>
        rw [if_pos rfl, if_pos rfl]
        unfold database_Found_j2
        rw [w64_nat i (by omega)]
      | false =>
        rw [if_neg (by decide), if_neg (by decide), service_ok F ha.u (by omega), Option.bind_some]
        unfold ent
        by_cases hs : isv a.f_Type = true
        · rw [if_pos hs, if_pos hs, ugroup F db hdb _ (by omega) (by omega), Option.bind_some, udecode F ha.b (by omega), Option.bind_some]
          exact hj _ rfl
        · rw [if_neg hs, if_neg hs, is1 F ha.u 10243 (by omega) (by decide) (by decide), Option.bind_some]
          by_cases hc : isN a.f_Type 10243 = true
          · rw [if_pos hc, if_pos hc, udescribed F ha.b (by omega), Option.bind_some]
            exact hj _ rfl
          · rw [if_neg hc, if_neg hc]
            exact hj _ rfl
    · show (if pc = true then l else l ++ [ent (grp db) a]).length ≤ i + 1
      by_cases h : pc = true
      · rw [if_pos h]; omega
      · rw [if_neg h]; simp; omega
    · show isN a.f_Type 10243 = pcAt db (i + 1)
      rw [pcAt_succ hx]) (by
    intro b _
    show database_Found_l1 F db b.1 (db.length : Int) = _
    unfold database_Found_l1
    rw [if_neg (df (by rw [len_nat]; omega))]) F 0 ([], false) (by omega) ⟨by simp, rfl⟩ (by omega)
  rw [List.drop_zero] at this
  rw [show (([], 0) : List T_api_Found × Int) = ((([] : List T_api_Found), false).1, ((0 : Nat) : Int)) from rfl, this, Option.bind_some]
  rfl

/-! ### By structure -/
def mrF (first : Int) : Nat → List T_api_Attribute → List T_api_Found
  | _, [] => []
  | n, d :: r => T_api_Found.mk (hdl first n) 0 0 0 d.f_Type :: mrF first (n + 1) r
def cfF (first : Int) (n : Nat) (c : T_api_Char) : List T_api_Found := if cfg c = true then [T_api_Found.mk (hdl first n) 0 0 0 (sht 10498)] else []
def chF (first : Int) (n : Nat) (c : T_api_Char) : List T_api_Found := T_api_Found.mk (hdl first n) 0 ((first + (n : Int) + 1) % 65536) (wu8 c.Props) c.f_Type :: (cfF first (n + 2) c ++ mrF first (n + 2 + cfn c) c.More)
def csF (first : Int) : Nat → List T_api_Char → List T_api_Found
  | _, [] => []
  | n, c :: r => chF first n c ++ csF first (n + cat c) r
def svF (first : Int) (G : Int → Int × Bool) (n : Nat) (s : T_api_Service) : List T_api_Found := T_api_Found.mk (hdl first n) (G (hdl first n)).1 0 0 s.f_Type :: csF first (n + 1) s.Chars
def ssF (first : Int) (G : Int → Int × Bool) : Nat → List T_api_Service → List T_api_Found
  | _, [] => []
  | n, s :: r => svF first G n s ++ ssF first G (n + sat s) r
theorem fo_more (first : Int) (G : Int → Int × Bool) : ∀ (l : List T_api_Attribute) (n : Nat) (acc : List T_api_Found), (∀ d ∈ l, resv d.f_Type = false) → (mrL first n l).foldl (fdd G) (acc, false) = (acc ++ mrF first n l, false)
  | [], n, acc, _ => by simp [mrL, mrF]
  | d :: r, n, acc, h => by
    obtain ⟨h1, h2, h3, h4⟩ := resv_not (h d (by simp))
    have hs : fdd G (acc, false) (at1 first n d.f_Type d.Perms d.Value) = (acc ++ [T_api_Found.mk (hdl first n) 0 0 0 d.f_Type], false) := by
      unfold fdd ent
      rw [if_neg (show ¬ ((acc, false) : List T_api_Found × Bool).2 = true from Bool.false_ne_true)]
      show (acc ++ [if isv d.f_Type = true then _ else if isN d.f_Type 10243 = true then _ else T_api_Found.mk (hdl first n) 0 0 0 d.f_Type], isN d.f_Type 10243) = _
      rw [h1, h3]
      rfl
    rw [mrL, List.foldl_cons, hs, fo_more first G r (n + 1) _ fun e he => h e (by simp [he]), mrF, List.append_assoc]
    rfl
theorem fo_char (first : Int) (G : Int → Int × Bool) (n : Nat) {c : T_api_Char} (hc : COk c) (hk : Cok c) (acc : List T_api_Found) : (chL first n c).foldl (fdd G) (acc, false) = (acc ++ chF first n c, false) := by
  have hck := chs_ok hk.k
  obtain ⟨h1, h2, h3, h4⟩ := resv_not hck.1
  have hm : ∀ d ∈ c.More, resv d.f_Type = false := fun d hd => (chs_ok (hk.m d hd)).1
  have hs : fdd G (acc, false) (at1 first n (sht 10243) 1 (cval first n c)) = (acc ++ [T_api_Found.mk (hdl first n) 0 ((first + (n : Int) + 1) % 65536) (wu8 c.Props) c.f_Type], true) := by
    unfold fdd ent
    rw [if_neg (show ¬ ((acc, false) : List T_api_Found × Bool).2 = true from Bool.false_ne_true)]
    show (acc ++ [if isv (sht 10243) = true then _ else if isN (sht 10243) 10243 = true then T_api_Found.mk (hdl first n) 0 (dsc (cval first n c)).2.1 (dsc (cval first n c)).1 (dsc (cval first n c)).2.2.1 else _], isN (sht 10243) 10243) = _
    rw [is_ch.1, is_ch.2, if_neg (by decide), if_pos rfl]
    unfold dsc
    rw [prt_cval first n hc.u, if_pos rfl]
  have hs2 : ∀ acc, fdd G (acc, true) (at1 first (n + 1) c.f_Type c.Perms c.Value) = (acc, false) := by
    intro acc
    unfold fdd
    rw [if_pos rfl]
    show (acc, isN c.f_Type 10243) = _
    rw [h3]
  unfold chL chF
  rw [List.foldl_cons, hs, List.foldl_cons, hs2, List.foldl_append]
  unfold cfL cfF
  by_cases hg : cfg c = true
  · rw [if_pos hg, if_pos hg]
    have hs3 : ∀ acc, fdd G (acc, false) (at1 first (n + 2) (sht 10498) 3 [0, 0]) = (acc ++ [T_api_Found.mk (hdl first (n + 2)) 0 0 0 (sht 10498)], false) := by
      intro acc
      unfold fdd ent
      rw [if_neg (show ¬ ((acc, false) : List T_api_Found × Bool).2 = true from Bool.false_ne_true)]
      show (acc ++ [if isv (sht 10498) = true then _ else if isN (sht 10498) 10243 = true then _ else T_api_Found.mk (hdl first (n + 2)) 0 0 0 (sht 10498)], isN (sht 10498) 10243) = _
      rw [is_cf.1, is_cf.2.1]
      rfl
    rw [List.foldl_cons, hs3, List.foldl_nil, fo_more first G _ _ _ hm]
    simp
  · rw [if_neg hg, if_neg hg, List.foldl_nil, fo_more first G _ _ _ hm]
    simp
theorem fo_chars (first : Int) (G : Int → Int × Bool) : ∀ (l : List T_api_Char) (n : Nat) (acc : List T_api_Found), (∀ c ∈ l, COk c) → (∀ c ∈ l, Cok c) → (csL first n l).foldl (fdd G) (acc, false) = (acc ++ csF first n l, false)
  | [], n, acc, _, _ => by simp [csL, csF]
  | c :: r, n, acc, hc, hk => by
    rw [csL, List.foldl_append, fo_char first G n (hc c (by simp)) (hk c (by simp)), fo_chars first G r _ _ (fun e he => hc e (by simp [he])) (fun e he => hk e (by simp [he])), csF, List.append_assoc]
theorem fo_svs (first : Int) (G : Int → Int × Bool) : ∀ (l : List T_api_Service) (n : Nat) (acc : List T_api_Found), (∀ s ∈ l, SOk s) → (∀ s ∈ l, Sok s) → (ssL first n l).foldl (fdd G) (acc, false) = (acc ++ ssF first G n l, false)
  | [], n, acc, _, _ => by simp [ssL, ssF]
  | s :: r, n, acc, hc, hk => by
    have hso := hc s (by simp)
    have hn : isN (sht (knd s)) 10243 = false := by
      unfold knd
      rw [isN_sh]
      by_cases h : s.Primary = true
      · rw [if_pos h]; decide
      · rw [if_neg h]; decide
    have hs : fdd G (acc, false) (at1 first n (sht (knd s)) 1 (encU s.f_Type)) = (acc ++ [T_api_Found.mk (hdl first n) (G (hdl first n)).1 0 0 s.f_Type], false) := by
      unfold fdd ent
      rw [if_neg (show ¬ ((acc, false) : List T_api_Found × Bool).2 = true from Bool.false_ne_true)]
      show (acc ++ [if isv (sht (knd s)) = true then T_api_Found.mk (hdl first n) (G (hdl first n)).1 0 0 (decU (encU s.f_Type)).1 else _], isN (sht (knd s)) 10243) = _
      rw [is_sv, if_pos rfl, hn, decU_encU hso.u]
    rw [ssL]
    unfold svL
    rw [List.cons_append, List.foldl_cons, hs, List.foldl_append, fo_chars first G _ _ _ hso.c (hk s (by simp)), fo_svs first G r _ _ (fun e he => hc e (by simp [he])) (fun e he => hk e (by simp [he])), ssF]
    unfold svF
    simp
/-- Groups of what Build returns end at a handle. -/
theorem grp_ne (first : Int) (h0 : 0 < first) (db : List T_api_Attribute) (hs : Seq first db) (hb : first + (db.length : Int) ≤ 65536) (n : Nat) (a : T_api_Attribute) (ha : db[n]? = some a) (hv : isv a.f_Type = true) : (grp db (hdl first n)).1 ≠ 0 := by
  have hn := (List.getElem?_eq_some_iff.1 ha).1
  have hh := hs.h n a ha
  unfold grp
  cases hk : db.findIdx? (fun a => a.Handle == hdl first n) with
  | none =>
    exfalso
    rw [List.findIdx?_eq_none_iff] at hk
    have := hk a (List.mem_of_getElem? ha)
    rw [hh] at this
    simp at this
  | some k =>
    obtain ⟨b, hb1, hb2⟩ := find_some hk
    have hkl := (List.getElem?_eq_some_iff.1 hb1).1
    have hb3 := hs.h k b hb1
    rw [hb2, hdl_id (by omega) (by omega), hdl_id (by omega) (by omega)] at hb3
    have hkn : k = n := by omega
    subst hkn
    simp only
    rw [ha]
    simp only
    rw [if_pos hv]
    simp only
    have hl := lst_lt hkl
    have hx : db[lst db k]? = some db[lst db k] := List.getElem?_eq_getElem hl
    generalize db[lst db k] = c at hx
    have hc := hs.h _ _ hx
    unfold hnd
    rw [hx]
    simp only
    rw [hc, hdl_id (by omega) (by omega)]
    omega
def LG (first : Int) (G : Int → Int × Bool) : Nat → List T_api_Service → Prop
  | _, [] => True
  | n, s :: r => (G (hdl first n)).1 ≠ 0 ∧ LG first G (n + sat s) r
theorem mrL_len (first : Int) : ∀ (l : List T_api_Attribute) (n : Nat), (mrL first n l).length = l.length
  | [], _ => rfl
  | d :: r, n => by rw [mrL, List.length_cons, mrL_len first r, List.length_cons]
theorem chL_len (first : Int) (n : Nat) (c : T_api_Char) : (chL first n c).length = cat c := by
  unfold chL cat cfL
  rw [List.length_cons, List.length_cons, List.length_append, mrL_len]
  by_cases h : cfg c = true
  · rw [if_pos h, if_pos h, List.length_singleton]; omega
  · rw [if_neg h, if_neg h, List.length_nil]; omega
theorem csL_len (first : Int) : ∀ (l : List T_api_Char) (n : Nat), (csL first n l).length = sm cat l
  | [], _ => rfl
  | d :: r, n => by rw [csL, List.length_append, chL_len, csL_len first r, sm_cons]
theorem svL_len (first : Int) (n : Nat) (s : T_api_Service) : (svL first n s).length = sat s := by
  unfold svL sat
  rw [List.length_cons, csL_len]
  omega
theorem LG_ok (first : Int) (h0 : 0 < first) (db : List T_api_Attribute) (hs : Seq first db) (hb : first + (db.length : Int) ≤ 65536) : ∀ (l : List T_api_Service) (pre : List T_api_Attribute), db = pre ++ ssL first pre.length l → LG first (grp db) pre.length l
  | [], _, _ => trivial
  | s :: r, pre, h => by
    refine ⟨grp_ne first h0 db hs hb pre.length (at1 first pre.length (sht (knd s)) 1 (encU s.f_Type)) (by rw [h, ssL]; unfold svL; simp) (is_sv s), ?_⟩
    have := LG_ok first h0 db hs hb r (pre ++ svL first pre.length s) (by rw [h, ssL, List.length_append, svL_len, List.append_assoc])
    rw [List.length_append, svL_len] at this
    exact this
end V
end Go.Proofs.Ytchlimkophmjlaa
