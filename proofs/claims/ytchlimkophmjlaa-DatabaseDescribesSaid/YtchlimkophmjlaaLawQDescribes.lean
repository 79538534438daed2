/-
  What Build returns is described by Found: the plain law.
-/
import Derived.Test.YtchlimkophmjlaaLawK
namespace Go.Proofs.Ytchlimkophmjlaa
namespace V
theorem drop_head {α : Type} {l t : List α} {k : Nat} {e : α} (h : l.drop k = e :: t) : l[k]? = some e ∧ l.drop (k + 1) = t ∧ k < l.length := by
  have hk : k < l.length := by
    by_cases hk : k < l.length
    · exact hk
    · rw [List.drop_of_length_le (by omega)] at h; cases h
  rw [List.drop_eq_getElem_cons hk] at h
  injection h with h1 h2
  exact ⟨by rw [List.getElem?_eq_getElem hk, h1], h2, hk⟩
theorem des3 (F : Nat) (first : Int) (fnd : List T_api_Found) (c : T_api_Char) (hl : fnd.length ≤ 100000) (hm : c.More.length ≤ 90000) (p n : Nat) (g : List T_api_Found) (h : fnd.drop p = mrF first n c.More ++ g) (hp : p ≤ fnd.length) (hF : 200000 < F) : ∃ q : Nat, iter (fun s : Int × Int => wirelesslaw43_DatabaseDescribes_l3 F fnd c s.1 s.2) F ((p : Int), 0) = some (.inl (q : Int)) ∧ fnd.drop q = g ∧ q ≤ fnd.length := by
  obtain ⟨q, h1, n', h2, h3⟩ := iter_rest (body := fun s : Int × Int => wirelesslaw43_DatabaseDescribes_l3 F fnd c s.1 s.2) c.More (fun (q : Nat) i => ((q : Int), (i : Int))) (fun q => .inl (q : Int)) (fun r q => ∃ n, fnd.drop q = mrF first n r ++ g ∧ q ≤ fnd.length) (by
    rintro i d r q hx ⟨n, hd, hq⟩
    have hi := (List.getElem?_eq_some_iff.1 hx).1
    rw [mrF, List.cons_append] at hd
    obtain ⟨e1, e2, e3⟩ := drop_head hd
    refine ⟨q + 1, ?_, n + 1, e2, by omega⟩
    show wirelesslaw43_DatabaseDescribes_l3 F fnd c (q : Int) (i : Int) = _
    unfold wirelesslaw43_DatabaseDescribes_l3
    rw [if_pos (dt (show (i : Int) < len c.More by rw [len_nat]; omega)), if_neg (df (show ¬ (q : Int) ≥ len fnd by rw [len_nat]; omega)), idx_nat, idx_nat, e1, hx, Option.bind_some, Option.bind_some, if_neg (by simp), Option.bind_some, if_neg (by simp), Option.bind_some]
    unfold wirelesslaw43_DatabaseDescribes_j8
    rw [if_neg (by simp), w64_nat q (by omega), w64_nat i (by omega)]) (by
    intro q _
    show wirelesslaw43_DatabaseDescribes_l3 F fnd c (q : Int) (c.More.length : Int) = _
    unfold wirelesslaw43_DatabaseDescribes_l3
    rw [if_neg (df (by rw [len_nat]; omega))]) F 0 p (by omega) ⟨n, by rw [List.drop_zero]; exact h, hp⟩ (by omega)
  exact ⟨q, h1, h2, h3⟩
theorem des2 (F : Nat) (first : Int) (h0 : 0 < first) (fnd : List T_api_Found) (l : List T_api_Service) (i : Nat) (s : T_api_Service) (hs : l[i]? = some s) (ho : SOk s) (hk : Sok s) (hl : fnd.length ≤ 100000) (p n : Nat) (g : List T_api_Found) (h : fnd.drop p = csF first n s.Chars ++ g) (hp : p ≤ fnd.length) (hb : first + ((n + sm cat s.Chars : Nat) : Int) ≤ 65536) (hF : 140737488355400 < F) : ∃ q : Nat, iter (fun t : Int × Int => wirelesslaw43_DatabaseDescribes_l2 F l fnd i t.1 t.2) F ((p : Int), 0) = some (.inl (q : Int)) ∧ fnd.drop q = g ∧ q ≤ fnd.length := by
  have hcl := ho.cl
  obtain ⟨q, h1, n', h2, h3, _⟩ := iter_rest (body := fun t : Int × Int => wirelesslaw43_DatabaseDescribes_l2 F l fnd i t.1 t.2) s.Chars (fun (q : Nat) i => ((q : Int), (i : Int))) (fun q => .inl (q : Int)) (fun r q => ∃ n, fnd.drop q = csF first n r ++ g ∧ q ≤ fnd.length ∧ first + ((n + sm cat r : Nat) : Int) ≤ 65536) (by
    rintro k c r q hx ⟨n, hd, hq, hb⟩
    have hi := (List.getElem?_eq_some_iff.1 hx).1
    have hm := List.mem_of_getElem? hx
    have hco := ho.c c hm
    have hck := chs_ok (hk c hm).k
    have hcat : cat c = 2 + c.More.length + (if cfg c = true then 1 else 0) := rfl
    rw [sm_cons] at hb
    rw [csF] at hd
    unfold chF at hd
    rw [List.cons_append, List.cons_append] at hd
    obtain ⟨e1, e2, e3⟩ := drop_head hd
    have hv : ((first + (n : Int) + 1) % 65536 == 0) = false := beq_false_of_ne (by omega)
    have hpr : wu8 c.Props = c.Props := wu8_id (by omega) (by omega)
    show ∃ b' : Nat, wirelesslaw43_DatabaseDescribes_l2 F l fnd (i : Int) (q : Int) (k : Int) = some (.next ((b' : Int), ((k + 1 : Nat) : Int))) ∧ _
    unfold wirelesslaw43_DatabaseDescribes_l2
    rw [idx_nat, hs, Option.bind_some, if_pos (dt (show (k : Int) < len s.Chars by rw [len_nat]; omega)), Option.bind_some, idx_nat, hx, Option.bind_some, if_neg (df (show ¬ (q : Int) ≥ len fnd by rw [len_nat]; omega)), idx_nat, e1, Option.bind_some]
    simp only
    rw [hv, if_neg (by decide), Option.bind_some]
    simp only
    rw [hpr, if_neg (by simp), Option.bind_some]
    have hz : (!(c.f_Type.High == c.f_Type.High && c.f_Type.Low == c.f_Type.Low)) = false := by simp
    simp only
    rw [hz]
    unfold wirelesslaw43_DatabaseDescribes_j6
    rw [if_neg (by decide), w64_nat q (by omega)]
    have fin : ∀ (q' : Nat), fnd.drop q' = mrF first (n + 2 + cfn c) c.More ++ (csF first (n + cat c) r ++ g) → q' ≤ fnd.length → ∃ b' : Nat, wirelesslaw43_DatabaseDescribes_j7 F fnd (k : Int) c (q' : Int) = some (.next ((b' : Int), ((k + 1 : Nat) : Int))) ∧ ∃ n, fnd.drop b' = csF first n r ++ g ∧ b' ≤ fnd.length ∧ first + ((n + sm cat r : Nat) : Int) ≤ 65536 := by
      intro q' g1 g2
      obtain ⟨b', g3, g4, g5⟩ := des3 F first fnd c hl (by omega) q' _ _ g1 g2 (by omega)
      refine ⟨b', ?_, n + cat c, g4, g5, by omega⟩
      unfold wirelesslaw43_DatabaseDescribes_j7
      rw [g3, Option.bind_some]
      simp only
      unfold wirelesslaw43_DatabaseDescribes_j5
      rw [w64_nat k (by omega)]
    unfold cfF at e2
    show ∃ b' : Nat, (if cfg c = true then _ else _) = _ ∧ _
    by_cases hg : cfg c = true
    · rw [if_pos hg, w64_nat (q + 1) (by omega)]
      rw [if_pos hg, List.cons_append, List.cons_append] at e2
      obtain ⟨f1, f2, f3⟩ := drop_head e2
      exact fin (q + 1 + 1) (by rw [f2, List.nil_append]; exact List.append_assoc _ _ _) (by omega)
    · rw [if_neg hg]
      rw [if_neg hg] at e2
      exact fin (q + 1) (by rw [e2, List.nil_append, List.append_assoc]) (by omega)) (by
    intro q _
    show wirelesslaw43_DatabaseDescribes_l2 F l fnd (i : Int) (q : Int) (s.Chars.length : Int) = _
    unfold wirelesslaw43_DatabaseDescribes_l2
    rw [idx_nat, hs, Option.bind_some, if_neg (df (by rw [len_nat]; omega))]) F 0 p (by omega) ⟨n, by rw [List.drop_zero]; exact h, hp, by rw [List.drop_zero]; exact hb⟩ (by omega)
  exact ⟨q, h1, h2, h3⟩
theorem des1 (F : Nat) (first : Int) (h0 : 0 < first) (G : Int → Int × Bool) (fnd : List T_api_Found) (l : List T_api_Service) (ho : LOk l) (hk : ∀ s ∈ l, Sok s) (hl : fnd.length ≤ 100000) (h : fnd = ssF first G 0 l) (hG : LG first G 0 l) (hb : first + (ct l : Int) ≤ 65536) (hF : 140737488355400 < F) : iter (fun t : Int × Int => wirelesslaw43_DatabaseDescribes_l1 F l fnd t.1 t.2) F (0, 0) = some (.inl (fnd.length : Int)) := by
  have hll := ho.2
  obtain ⟨q, h1, n', h2, h3, _⟩ := iter_rest (body := fun t : Int × Int => wirelesslaw43_DatabaseDescribes_l1 F l fnd t.1 t.2) l (fun (q : Nat) i => ((q : Int), (i : Int))) (fun q => .inl (q : Int)) (fun r q => ∃ n, fnd.drop q = ssF first G n r ∧ q ≤ fnd.length ∧ LG first G n r ∧ first + ((n + sm sat r : Nat) : Int) ≤ 65536) (by
    rintro k s r q hx ⟨n, hd, hq, hg, hb⟩
    have hi := (List.getElem?_eq_some_iff.1 hx).1
    have hm := List.mem_of_getElem? hx
    have hso := ho.1 s hm
    rw [sm_cons] at hb
    have hsat : sat s = 1 + sm cat s.Chars := rfl
    rw [ssF] at hd
    unfold svF at hd
    rw [List.cons_append] at hd
    obtain ⟨e1, e2, e3⟩ := drop_head hd
    have hv : ((G (hdl first n)).1 == 0) = false := beq_false_of_ne hg.1
    show ∃ b' : Nat, wirelesslaw43_DatabaseDescribes_l1 F l fnd (q : Int) (k : Int) = some (.next ((b' : Int), ((k + 1 : Nat) : Int))) ∧ _
    unfold wirelesslaw43_DatabaseDescribes_l1
    rw [if_pos (dt (show (k : Int) < len l by rw [len_nat]; omega)), if_neg (df (show ¬ (q : Int) ≥ len fnd by rw [len_nat]; omega)), idx_nat, e1, Option.bind_some]
    simp only
    rw [hv, if_neg (by decide), Option.bind_some, idx_nat, hx, Option.bind_some]
    have hz : (!(s.f_Type.High == s.f_Type.High && s.f_Type.Low == s.f_Type.Low)) = false := by simp
    simp only
    rw [hz]
    unfold wirelesslaw43_DatabaseDescribes_j4
    rw [if_neg (by decide), w64_nat q (by omega)]
    obtain ⟨b', g3, g4, g5⟩ := des2 F first h0 fnd l k s hx hso (hk s hm) hl (q + 1) (n + 1) _ e2 (by omega) (by omega) hF
    refine ⟨b', ?_, n + sat s, g4, g5, hg.2, by omega⟩
    rw [g3, Option.bind_some]
    simp only
    unfold wirelesslaw43_DatabaseDescribes_j3
    rw [w64_nat k (by omega)]) (by
    intro q _
    show wirelesslaw43_DatabaseDescribes_l1 F l fnd (q : Int) (l.length : Int) = _
    unfold wirelesslaw43_DatabaseDescribes_l1
    rw [if_neg (df (by rw [len_nat]; omega))]) F 0 0 (by omega) ⟨0, by rw [List.drop_zero, List.drop_zero]; exact h, by omega, by rw [List.drop_zero]; exact hG, by rw [List.drop_zero]; unfold ct at hb; omega⟩ (by omega)
  have hq : q = fnd.length := by
    have hz : fnd.drop q = [] := h2
    rw [List.drop_eq_nil_iff] at hz
    omega
  rw [hq] at h1
  exact h1
theorem des4 (F : Nat) (first : Int) (h0 : 0 < first) (x : List T_api_Attribute × Int) (hs : Seq first x.1) (hl : x.1.length ≤ 1000) (hb : first + (x.1.length : Int) ≤ 65536) (hF : 2000 < F) : iter (fun s : Int => wirelesslaw43_DatabaseDescribes_l4 F first x s) F 0 = some (.inl ()) := by
  have := iter_count (body := fun s : Int => wirelesslaw43_DatabaseDescribes_l4 F first x s) (fun i => (i : Int)) x.1.length (.inl ()) (by
    intro i hi
    have hx : x.1[i]? = some x.1[i] := List.getElem?_eq_getElem hi
    generalize x.1[i] = a at hx
    have hh := hs.h i a hx
    rw [hdl_id (by omega) (by omega)] at hh
    show wirelesslaw43_DatabaseDescribes_l4 F first x (i : Int) = _
    unfold wirelesslaw43_DatabaseDescribes_l4
    rw [if_pos (dt (show (i : Int) < len x.1 by rw [len_nat]; omega)), idx_nat, hx, Option.bind_some, hh, w64_id (x := first) (by omega) (by omega), if_neg (by simp), w64_nat i (by omega)]) (by
    show wirelesslaw43_DatabaseDescribes_l4 F first x (x.1.length : Int) = _
    unfold wirelesslaw43_DatabaseDescribes_l4
    rw [if_neg (df (by rw [len_nat]; omega))]) F 0 (by omega) (by omega)
  exact this
theorem bres_cases (l : List T_api_Service) (first : Int) (r : Int × Int) : (∃ e, e ≠ 0 ∧ bres l first r = ([], e)) ∨ (first ≠ 0 ∧ r.2 = 0 ∧ r.1 ≤ 1000 ∧ w64 (w64 (w64 first + r.1) - 1) ≤ 65535 ∧ bres l first r = (bld first l, 0)) := by
  unfold bres
  by_cases h1 : first = 0
  · rw [if_pos (by simpa using h1)]
    exact .inl ⟨5, by decide, rfl⟩
  · rw [if_neg (by simpa using h1)]
    by_cases h2 : r.2 = 0
    · rw [if_neg (by simpa using h2)]
      by_cases h3 : r.1 > 1000
      · rw [if_pos (dt h3)]
        exact .inl ⟨4, by decide, rfl⟩
      · rw [if_neg (df h3)]
        by_cases h4 : w64 (w64 (w64 first + r.1) - 1) > 65535
        · rw [if_pos (dt h4)]
          exact .inl ⟨8, by decide, rfl⟩
        · rw [if_neg (df h4)]
          exact .inr ⟨h1, h2, Int.not_lt.1 h3, Int.not_lt.1 h4, rfl⟩
    · rw [if_pos (by simpa using h2)]
      exact .inl ⟨r.2, h2, rfl⟩
theorem ar3 (first n : Int) (h0 : 0 ≤ first) (h1 : first < 65536) (hn : 0 ≤ n) (hn2 : n ≤ 1000) (h : w64 (w64 (w64 first + n) - 1) ≤ 65535) : first + n ≤ 65536 := by
  rw [w64_id (x := first) (by omega) (by omega), w64_id (x := first + n) (by omega) (by omega), w64_id (by omega) (by omega)] at h
  omega
theorem fnd_len (G : Int → Int × Bool) : ∀ (l : List T_api_Attribute) (b : List T_api_Found × Bool), (l.foldl (fdd G) b).1.length ≤ b.1.length + l.length
  | [], b => by simp
  | a :: l, b => by
    rw [List.foldl_cons, List.length_cons]
    have h1 := fnd_len G l (fdd G b a)
    have h2 : (fdd G b a).1.length ≤ b.1.length + 1 := by
      unfold fdd
      simp only
      by_cases h : b.2 = true
      · rw [if_pos h]; omega
      · rw [if_neg h]; simp
    omega
theorem describes_law (l : List T_api_Service) (first : Int) (ho : LOk l) (h0 : 0 ≤ first) (h1 : first < 65536) : wirelesslaw43_DatabaseDescribes FF l first = some true := by
  have hF : FF = 1125899906842624 := rfl
  unfold wirelesslaw43_DatabaseDescribes
  obtain ⟨b, g1, g2⟩ := small_ok FF l ho (by omega)
  rw [g1, Option.bind_some, example_ok]
  cases b with
  | false => rfl
  | true =>
    obtain ⟨g3, g4⟩ := g2 rfl
    have hct := ct_le l g3
    obtain ⟨r, hr, h2, _⟩ := build_both FF first h0 h1 l ho g4 (by omega) (by omega)
    rw [if_neg (by decide), h2, Option.bind_some]
    rcases bres_cases l first r with ⟨e, he, hb⟩ | ⟨hf, hr2, hr1, hw, hb⟩
    · rw [hb, if_pos (bne_iff_ne.2 he)]
      rfl
    · obtain ⟨hr3, hk⟩ := hr hr2
      rw [hr3] at hr1 hw
      have hw2 := ar3 first (ct l) h0 h1 (by omega) hr1 hw
      clear hw
      rw [hb, if_neg (by simp)]
      have hseq := bld_seq first l ho.1 hk
      have hlen := bld_len first l
      have hdb : ∀ a ∈ bld first l, AOk a := fun a ha => (hseq.a a ha).1
      have hfl := fnd_len (grp (bld first l)) (bld first l) ([], false)
      rw [des4 FF first (by omega) (bld first l, 0) hseq (by rw [hlen]; omega) (by rw [hlen]; omega) (by omega), Option.bind_some]
      simp only
      unfold wirelesslaw43_DatabaseDescribes_j1
      simp only
      have hfo := ufound FF (bld first l) hdb (by omega) (by omega)
      have hss : ((bld first l).foldl (fdd (grp (bld first l))) ([], false)).1 = ssF first (grp (bld first l)) 0 l := by
        have := fo_svs first (grp (bld first l)) l 0 [] ho.1 hk
        rw [← bld_eq] at this
        rw [this]
        rfl
      rw [hss] at hfl hfo
      simp only [List.length_nil] at hfl
      rw [hfo, Option.bind_some, des1 FF first (by omega) (grp (bld first l)) _ l ho hk (by omega) rfl (LG_ok first (by omega) (bld first l) hseq (by rw [hlen]; omega) l [] (by rw [bld_eq]; rfl)) (by omega) (by omega), Option.bind_some]
      simp only
      unfold wirelesslaw43_DatabaseDescribes_j2
      rw [len_nat, if_pos (by simp), ucheck0 FF first (by omega) (bld first l) hseq (by rw [bld_eq]; exact ok_svs first l 0 true _ ho.1 hk) (by omega) (by omega) (by omega), example_ok]
      rfl
end V
end Go.Proofs.Ytchlimkophmjlaa
