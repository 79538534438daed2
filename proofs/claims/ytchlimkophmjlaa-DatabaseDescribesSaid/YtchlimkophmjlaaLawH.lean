/-
  Build of the program and of the reference: the same attributes.
-/
import Derived.Test.YtchlimkophmjlaaLawF
namespace Go.Proofs.Ytchlimkophmjlaa
namespace V
/-- A loop over a list that folds it. -/
theorem iter_fold {S O α β : Type} {body : S → Option (Out S O)} (l : List α) (f : β → α → β) (st : β → Nat → S) (o : β → O) (I : List α → β → Prop)
    (h : ∀ (i : Nat) x r b, l[i]? = some x → I (x :: r) b → body (st b i) = some (.next (st (f b x) (i + 1))) ∧ I r (f b x))
    (hd : ∀ b, I [] b → body (st b l.length) = some (.done (o b))) :
    ∀ (F i : Nat) (b : β), i ≤ l.length → I (l.drop i) b → l.length - i < F → iter body F (st b i) = some (o ((l.drop i).foldl f b))
  | 0, i, b, _, _, hF => by omega
  | F + 1, i, b, hi, hI, hF => by
    by_cases hin : i < l.length
    · have hx : l[i]? = some l[i] := List.getElem?_eq_getElem hin
      have hdr : l.drop i = l[i] :: l.drop (i + 1) := List.drop_eq_getElem_cons hin
      rw [hdr] at hI
      obtain ⟨h1, h2⟩ := h i _ _ b hx hI
      rw [iter_step h1, iter_fold l f st o I h hd F (i + 1) _ hin h2 (by omega), hdr, List.foldl_cons]
    · have : i = l.length := by omega
      subst this
      rw [List.drop_length] at hI ⊢
      rw [iter_stop (hd b hI)]
      rfl
theorem foldl_len {α β : Type} (f : List β → α → List β) (g : α → Nat) (h : ∀ b x, (f b x).length = b.length + g x) : ∀ (l : List α) (b : List β), (l.foldl f b).length = b.length + sm g l
  | [], b => by simp [sm]
  | x :: l, b => by rw [List.foldl_cons, foldl_len f g h l, h, sm_cons]; omega
/-- One more attribute, a characteristic, a service. -/
def hdl (first : Int) (n : Nat) : Int := wu16 (first + (n : Int))
def adS (first : Int) (db : List T_api_Attribute) (u : T_api_UUID) (p : Int) (v : List Int) : List T_api_Attribute := db ++ [T_api_Attribute.mk (hdl first db.length) u p v]
def cval (first : Int) (n : Nat) (c : T_api_Char) : List Int := (wu8 c.Props :: leb 2 (first + (n : Int) + 1)) ++ encU c.f_Type
def mor (first : Int) (db : List T_api_Attribute) (d : T_api_Attribute) : List T_api_Attribute := adS first db d.f_Type d.Perms d.Value
def hed (first : Int) (db : List T_api_Attribute) (c : T_api_Char) : List T_api_Attribute := adS first (adS first db (sht 10243) 1 (cval first db.length c)) c.f_Type c.Perms c.Value
def hedc (first : Int) (db : List T_api_Attribute) (c : T_api_Char) : List T_api_Attribute := if cfg c = true then adS first (hed first db c) (sht 10498) 3 [0, 0] else hed first db c
def chr (first : Int) (db : List T_api_Attribute) (c : T_api_Char) : List T_api_Attribute := c.More.foldl (mor first) (hedc first db c)
def knd (s : T_api_Service) : Int := if s.Primary = true then 10240 else 10241
def svh (first : Int) (db : List T_api_Attribute) (s : T_api_Service) : List T_api_Attribute := adS first db (sht (knd s)) 1 (encU s.f_Type)
def svc (first : Int) (db : List T_api_Attribute) (s : T_api_Service) : List T_api_Attribute := s.Chars.foldl (chr first) (svh first db s)
def bld (first : Int) (l : List T_api_Service) : List T_api_Attribute := l.foldl (svc first) []
theorem adS_len (first : Int) (db : List T_api_Attribute) (u : T_api_UUID) (p : Int) (v : List Int) : (adS first db u p v).length = db.length + 1 := by simp [adS]
theorem mor_len (first : Int) (db : List T_api_Attribute) (d : T_api_Attribute) : (mor first db d).length = db.length + 1 := adS_len ..
theorem hed_len (first : Int) (db : List T_api_Attribute) (c : T_api_Char) : (hed first db c).length = db.length + 2 := by unfold hed; rw [adS_len, adS_len]
theorem hedc_len (first : Int) (db : List T_api_Attribute) (c : T_api_Char) : (hedc first db c).length = db.length + (2 + (if cfg c = true then 1 else 0)) := by
  unfold hedc
  by_cases h : cfg c = true
  · rw [if_pos h, if_pos h, adS_len, hed_len]
  · rw [if_neg h, if_neg h, hed_len]
theorem chr_len (first : Int) (db : List T_api_Attribute) (c : T_api_Char) : (chr first db c).length = db.length + cat c := by
  unfold chr cat
  rw [foldl_len (mor first) (fun _ => 1) (mor_len first), sm_const, hedc_len]
  omega
theorem svc_len (first : Int) (db : List T_api_Attribute) (s : T_api_Service) : (svc first db s).length = db.length + sat s := by
  unfold svc sat svh
  rw [foldl_len (chr first) cat (chr_len first), adS_len]
  omega
theorem bld_len (first : Int) (l : List T_api_Service) : (bld first l).length = ct l := by
  unfold bld ct
  rw [foldl_len (svc first) sat (svc_len first)]
  simp
theorem hdl_next (first : Int) (n : Nat) : wu16 (hdl first n + 1) = hdl first (n + 1) := by unfold hdl wu16; omega
theorem hdl_ref (first : Int) (n : Nat) : wu16 (first + wu16 (n : Int)) = hdl first n := by unfold hdl wu16; omega
theorem app56 (db : List T_api_Attribute) (a : T_api_Attribute) (h : db.length ≤ 100000) : app 56 db [a] = some (db ++ [a]) := app_small (by simp; omega) (by omega)
theorem uadd (F : Nat) (first : Int) (db : List T_api_Attribute) (u : T_api_UUID) (p : Int) (v : List Int) (hv : v.length ≤ 8192) (hd : db.length ≤ 100000) (hF : 3 < F) : database_Build_1 F u p [v] db (hdl first db.length) = some (adS first db u p v, hdl first (adS first db u p v).length) := by
  unfold database_Build_1
  rw [join_one F v (by omega) (by omega), Option.bind_some, app56 _ _ hd, Option.bind_some]
  unfold database_Build_1_j1
  rw [hdl_next, adS_len]
  rfl
theorem uadd2 (F : Nat) (first : Int) (db : List T_api_Attribute) (u : T_api_UUID) (p : Int) (a b : List Int) (hv : a.length + b.length ≤ 8192) (hd : db.length ≤ 100000) (hF : 3 < F) : database_Build_1 F u p [a, b] db (hdl first db.length) = some (adS first db u p (a ++ b), hdl first (adS first db u p (a ++ b)).length) := by
  unfold database_Build_1
  rw [join_two F a b (by omega) (by omega), Option.bind_some, app56 _ _ hd, Option.bind_some]
  unfold database_Build_1_j1
  rw [hdl_next, adS_len]
  rfl
theorem radd (F : Nat) (first : Int) (db : List T_api_Attribute) (u : T_api_UUID) (p : Int) (v : List Int) (hv : v.length ≤ 100000) (hd : db.length ≤ 100000) : wirelessref43_add F db first u p v = some (adS first db u p v) := by
  unfold wirelessref43_add
  rw [app_cat (by simp; omega), Option.bind_some, app56 _ _ hd, Option.bind_some, len_nat, hdl_ref]
  rfl
theorem cval_u (first : Int) (n : Nat) (c : T_api_Char) : [wu8 c.Props, wu8 (wu16 (hdl first n + 1)), wu8 (shrp (wu16 (hdl first n + 1)) 8)] ++ encU c.f_Type = cval first n c := by
  unfold cval
  congr 1
  rw [shrp_eq]
  unfold hdl wu16 wu8
  simp only [leb]
  congr 2
  · omega
  · congr 1
    omega

/-! ### The program -/
theorem umor (F : Nat) (first : Int) (c : T_api_Char) (hv : ∀ d ∈ c.More, d.Value.length ≤ 8192) (hl : c.More.length ≤ 90000) (db : List T_api_Attribute) (hd : db.length + c.More.length ≤ 100000) (hF : 100000 < F) : iter (fun s : List T_api_Attribute × Int × Int => database_Build_l3 F c s.1 s.2.1 s.2.2) F (db, hdl first db.length, 0) = some (c.More.foldl (mor first) db, hdl first (c.More.foldl (mor first) db).length) := by
  have := iter_fold (body := fun s : List T_api_Attribute × Int × Int => database_Build_l3 F c s.1 s.2.1 s.2.2) c.More (mor first) (fun db i => (db, hdl first db.length, (i : Int))) (fun db => (db, hdl first db.length)) (fun r db => db.length + r.length ≤ 100000) (by
    intro i d r db hx hI
    rw [List.length_cons] at hI
    refine ⟨?_, by rw [mor_len]; omega⟩
    have hin := (List.getElem?_eq_some_iff.1 hx).1
    show database_Build_l3 F c db (hdl first db.length) (i : Int) = _
    unfold database_Build_l3
    rw [if_pos (dt (show (i : Int) < len c.More by rw [len_nat]; omega)), idx_nat, hx, Option.bind_some, uadd F first db _ _ _ (hv d (List.mem_of_getElem? hx)) (by omega) (by omega), Option.bind_some, w64_nat i (by omega)]
    rfl) (by
    intro db _
    show database_Build_l3 F c db (hdl first db.length) (c.More.length : Int) = _
    unfold database_Build_l3
    rw [if_neg (df (by rw [len_nat]; omega))]) F 0 db (by omega) (by rw [List.drop_zero]; omega) (by omega)
  rw [List.drop_zero] at this
  exact this
theorem uchr (F : Nat) (first : Int) (c : T_api_Char) (hc : COk c) (hv : VC c) (hl : c.More.length ≤ 90000) (k : Nat) (hk : k < 9000000000000000) (db : List T_api_Attribute) (hd : db.length + cat c ≤ 100000) (hF : 100000 < F) (s : T_api_Service) (hx : s.Chars[k]? = some c) : database_Build_l2 F s db (hdl first db.length) (k : Int) = some (.next (chr first db c, hdl first (chr first db c).length, ((k + 1 : Nat) : Int))) := by
  have hin := (List.getElem?_eq_some_iff.1 hx).1
  have hcat : cat c = 2 + c.More.length + (if cfg c = true then 1 else 0) := rfl
  have hel := encU_len c.f_Type
  unfold database_Build_l2
  rw [if_pos (dt (show (k : Int) < len s.Chars by rw [len_nat]; omega)), idx_nat, hx, Option.bind_some, ushort F _ (by decide) (by decide), Option.bind_some, uencode F hc.u (by omega), Option.bind_some, uadd2 F first db _ _ _ _ (by rw [List.length_cons, List.length_cons, List.length_cons, List.length_nil]; omega) (by omega) (by omega), Option.bind_some, cval_u]
  unfold database_Build_j6
  rw [uadd F first _ _ _ _ hv.v (by rw [adS_len]; omega) (by omega), Option.bind_some, told_ok, Option.bind_some]
  have fin : ∀ (db' : List T_api_Attribute), db'.length + c.More.length ≤ 100000 → database_Build_j7 F (k : Int) c db' (hdl first db'.length) = some (.next (c.More.foldl (mor first) db', hdl first (c.More.foldl (mor first) db').length, ((k + 1 : Nat) : Int))) := by
    intro db' h
    unfold database_Build_j7
    rw [umor F first c hv.m hl db' h hF, Option.bind_some]
    unfold database_Build_j5
    rw [w64_nat k (by omega)]
  have hh := hedc_len first db c
  by_cases hg : cfg c = true
  · rw [if_pos hg] at hcat
    rw [if_pos hg, ushort F _ (by decide) (by decide), Option.bind_some, uadd F first _ _ _ _ (by simp) (by rw [adS_len, adS_len]; omega) (by omega), Option.bind_some]
    have he : chr first db c = c.More.foldl (mor first) (adS first (hed first db c) (sht 10498) 3 [0, 0]) := by unfold chr hedc; rw [if_pos hg]
    rw [he]
    exact fin (adS first (hed first db c) (sht 10498) 3 [0, 0]) (by rw [adS_len, hed_len]; omega)
  · rw [if_neg hg] at hcat
    rw [if_neg hg]
    have he : chr first db c = c.More.foldl (mor first) (hed first db c) := by unfold chr hedc; rw [if_neg hg]
    rw [he]
    exact fin (hed first db c) (by rw [hed_len]; omega)
theorem usvc (F : Nat) (first : Int) (s : T_api_Service) (hs : SOk s) (hv : VS s) (k : Nat) (hk : k < 9000000000000000) (db : List T_api_Attribute) (hd : db.length + sat s ≤ 50000) (hF : 140737488355400 < F) (l : List T_api_Service) (hx : l[k]? = some s) : database_Build_l1 F l db (hdl first db.length) (k : Int) = some (.next (svc first db s, hdl first (svc first db s).length, ((k + 1 : Nat) : Int))) := by
  have hin := (List.getElem?_eq_some_iff.1 hx).1
  have hsat : sat s = 1 + sm cat s.Chars := rfl
  have hel := encU_len s.f_Type
  have fin : ∀ (n : Int), n = knd s → database_Build_j3 F db (hdl first db.length) (k : Int) s n = some (.next (svc first db s, hdl first (svc first db s).length, ((k + 1 : Nat) : Int))) := by
    intro n hn
    have hn2 : 0 ≤ n ∧ n < 65536 := by
      rw [hn]; unfold knd
      by_cases h : s.Primary = true
      · rw [if_pos h]; omega
      · rw [if_neg h]; omega
    unfold database_Build_j3
    rw [ushort F n hn2.1 hn2.2, Option.bind_some, uencode F hs.u (by omega), Option.bind_some, uadd F first db _ _ _ (by omega) (by omega) (by omega), Option.bind_some, hn]
    unfold database_Build_j4
    have := iter_fold (body := fun t : List T_api_Attribute × Int × Int => database_Build_l2 F s t.1 t.2.1 t.2.2) s.Chars (chr first) (fun db i => (db, hdl first db.length, (i : Int))) (fun db => (db, hdl first db.length)) (fun r db => db.length + sm cat r ≤ 50000) (by
      intro i c r db hx hI
      rw [sm_cons] at hI
      have hm := List.mem_of_getElem? hx
      have hi := (List.getElem?_eq_some_iff.1 hx).1
      have hcl := hs.cl
      have hcat : cat c = 2 + c.More.length + (if cfg c = true then 1 else 0) := rfl
      refine ⟨uchr F first c (hs.c c hm) (hv c hm) (by omega) i (by omega) db (by omega) (by omega) s hx, by rw [chr_len]; omega⟩) (by
      intro db _
      show database_Build_l2 F s db (hdl first db.length) (s.Chars.length : Int) = _
      unfold database_Build_l2
      rw [if_neg (df (by rw [len_nat]; omega))]) F 0 (svh first db s) (by omega) (by rw [List.drop_zero]; unfold svh; rw [adS_len]; omega) (by have := hs.cl; omega)
    rw [List.drop_zero] at this
    show ((iter (fun t : List T_api_Attribute × Int × Int => database_Build_l2 F s t.1 t.2.1 t.2.2) F (svh first db s, hdl first (svh first db s).length, ((0 : Nat) : Int))).bind fun o => database_Build_j2 F (k : Int) o.1 o.2) = _
    rw [this, Option.bind_some]
    unfold database_Build_j2
    rw [w64_nat k (by omega)]
    rfl
  unfold database_Build_l1
  rw [if_pos (dt (show (k : Int) < len l by rw [len_nat]; omega)), idx_nat, hx, Option.bind_some]
  unfold knd at fin
  by_cases hp : s.Primary = true
  · rw [if_pos hp]
    exact fin _ (by rw [if_pos hp])
  · rw [if_neg hp]
    exact fin _ (by rw [if_neg hp])
theorem ubld (F : Nat) (first : Int) (h0 : 0 ≤ first) (h1 : first < 65536) (l : List T_api_Service) (ho : LOk l) (hv : ∀ s ∈ l, VS s) (hd : ct l ≤ 50000) (hF : 140737488355400 < F) : iter (fun s : List T_api_Attribute × Int × Int => database_Build_l1 F l s.1 s.2.1 s.2.2) F ([], first, 0) = some (bld first l) := by
  have hll := ho.2
  have := iter_fold (body := fun t : List T_api_Attribute × Int × Int => database_Build_l1 F l t.1 t.2.1 t.2.2) l (svc first) (fun db i => (db, hdl first db.length, (i : Int))) (fun db => db) (fun r db => db.length + sm sat r ≤ 50000) (by
    intro i s r db hx hI
    rw [sm_cons] at hI
    have hm := List.mem_of_getElem? hx
    have hi := (List.getElem?_eq_some_iff.1 hx).1
    refine ⟨usvc F first s (ho.1 s hm) (hv s hm) i (by omega) db (by omega) hF l hx, by rw [svc_len]; omega⟩) (by
    intro db _
    show database_Build_l1 F l db (hdl first db.length) (l.length : Int) = _
    unfold database_Build_l1
    rw [if_neg (df (by rw [len_nat]; omega))]) F 0 [] (by omega) (by rw [List.drop_zero]; simpa [ct] using hd) (by omega)
  rw [List.drop_zero] at this
  have hf : hdl first ([] : List T_api_Attribute).length = first := by
    show wu16 (first + ((0 : Nat) : Int)) = first
    rw [wu16_id (by omega) (by omega)]
    omega
  rw [hf] at this
  exact this

/-! ### The reference -/
theorem rmor (F : Nat) (first : Int) (c : T_api_Char) (hv : ∀ d ∈ c.More, d.Value.length ≤ 8192) (hl : c.More.length ≤ 90000) (db : List T_api_Attribute) (hd : db.length + c.More.length ≤ 100000) (hF : 100000 < F) : wirelessref43_addChar_j3 F first c db = some (c.More.foldl (mor first) db) := by
  unfold wirelessref43_addChar_j3
  have := iter_fold (body := fun s : List T_api_Attribute × Int => wirelessref43_addChar_l1 F first c s.1 s.2) c.More (mor first) (fun db i => (db, (i : Int))) (fun db => db) (fun r db => db.length + r.length ≤ 100000) (by
    intro i d r db hx hI
    rw [List.length_cons] at hI
    refine ⟨?_, by rw [mor_len]; omega⟩
    have hin := (List.getElem?_eq_some_iff.1 hx).1
    have hdv := hv d (List.mem_of_getElem? hx)
    show wirelessref43_addChar_l1 F first c db (i : Int) = _
    unfold wirelessref43_addChar_l1
    rw [if_pos (dt (show (i : Int) < len c.More by rw [len_nat]; omega)), idx_nat, hx, Option.bind_some, Option.bind_some, Option.bind_some, radd F first db _ _ _ (by omega) (by omega), Option.bind_some, w64_nat i (by omega)]
    rfl) (by
    intro db _
    show wirelessref43_addChar_l1 F first c db (c.More.length : Int) = _
    unfold wirelessref43_addChar_l1
    rw [if_neg (df (by rw [len_nat]; omega))]) F 0 db (by omega) (by rw [List.drop_zero]; omega) (by omega)
  rw [List.drop_zero] at this
  rw [show ((db, 0) : List T_api_Attribute × Int) = (db, ((0 : Nat) : Int)) from rfl, this, Option.bind_some]
  rfl
theorem ar2 (first : Int) (n : Nat) (h0 : 0 ≤ first) (h1 : first < 65536) (hn : n ≤ 100000) : wu64 (w64 (w64 (w64 first + (n : Int)) + 1)) = first + (n : Int) + 1 := by
  rw [w64_id (x := first) (by omega) (by omega), w64_id (x := first + (n : Int)) (by omega) (by omega), w64_id (by omega) (by omega), wu64_id (by omega) (by omega)]
theorem rchr (F : Nat) (first : Int) (h0 : 0 ≤ first) (h1 : first < 65536) (c : T_api_Char) (hc : COk c) (hv : VC c) (hl : c.More.length ≤ 90000) (db : List T_api_Attribute) (hd : db.length + cat c ≤ 100000) (hF : 100000 < F) : wirelessref43_addChar F db first c = some (chr first db c) := by
  have hcat : cat c = 2 + c.More.length + (if cfg c = true then 1 else 0) := rfl
  have hel := encU_len c.f_Type
  unfold wirelessref43_addChar
  rw [len_nat, ar2 first db.length h0 h1 (by omega)]
  have hp := rput_ok F (first + (db.length : Int) + 1) 2 (by omega) (by omega) (by omega) (by omega)
  rw [show ((2 : Nat) : Int) = 2 from rfl] at hp
  rw [hp, Option.bind_some, app_cat (by rw [leb_length]; simp), Option.bind_some]
  unfold wirelessref43_addChar_j1
  rw [rshort F _ (by decide) (by decide), Option.bind_some, rencode F hc.u (by omega), Option.bind_some, app_cat (by rw [List.length_append, leb_length, List.length_singleton]; omega), Option.bind_some, radd F first db _ _ _ (by rw [List.length_append, List.length_append, leb_length, List.length_singleton]; omega) (by omega), Option.bind_some]
  have hcv : ([wu8 c.Props] ++ leb 2 (first + (db.length : Int) + 1)) ++ encU c.f_Type = cval first db.length c := rfl
  rw [hcv]
  have hvv := hv.v
  unfold wirelessref43_addChar_j2
  rw [radd F first _ _ _ _ (by omega) (by rw [adS_len]; omega), Option.bind_some]
  show (if cfg c = true then _ else _) = _
  by_cases hg : cfg c = true
  · rw [if_pos hg] at hcat
    rw [if_pos hg, rshort F _ (by decide) (by decide), Option.bind_some, radd F first _ _ _ _ (by simp) (by rw [adS_len, adS_len]; omega), Option.bind_some]
    have he : chr first db c = c.More.foldl (mor first) (adS first (hed first db c) (sht 10498) 3 [0, 0]) := by unfold chr hedc; rw [if_pos hg]
    rw [he]
    exact rmor F first c hv.m hl _ (by rw [adS_len, adS_len, adS_len]; omega) hF
  · rw [if_neg hg] at hcat
    rw [if_neg hg]
    have he : chr first db c = c.More.foldl (mor first) (hed first db c) := by unfold chr hedc; rw [if_neg hg]
    rw [he]
    exact rmor F first c hv.m hl _ (by rw [adS_len, adS_len]; omega) hF
theorem rsvc (F : Nat) (first : Int) (h0 : 0 ≤ first) (h1 : first < 65536) (s : T_api_Service) (hs : SOk s) (hv : VS s) (k : Nat) (hk : k < 9000000000000000) (db : List T_api_Attribute) (hd : db.length + sat s ≤ 50000) (hF : 140737488355400 < F) (l : List T_api_Service) (hx : l[k]? = some s) : wirelessref43_Build_l1 F l first db (k : Int) = some (.next (svc first db s, ((k + 1 : Nat) : Int))) := by
  have hin := (List.getElem?_eq_some_iff.1 hx).1
  have hsat : sat s = 1 + sm cat s.Chars := rfl
  have hel := encU_len s.f_Type
  have fin : ∀ (n : Int), n = knd s → wirelessref43_Build_j3 F l first db (k : Int) n = some (.next (svc first db s, ((k + 1 : Nat) : Int))) := by
    intro n hn
    have hn2 : 0 ≤ n ∧ n < 65536 := by
      rw [hn]; unfold knd
      by_cases h : s.Primary = true
      · rw [if_pos h]; omega
      · rw [if_neg h]; omega
    unfold wirelessref43_Build_j3
    rw [idx_nat, hx, Option.bind_some, rshort F n hn2.1 hn2.2, Option.bind_some, rencode F hs.u (by omega), Option.bind_some, radd F first db _ _ _ (by omega) (by omega), Option.bind_some, hn]
    unfold wirelessref43_Build_j4
    have := iter_fold (body := fun t : List T_api_Attribute × Int => wirelessref43_Build_l2 F l first (k : Int) t.1 t.2) s.Chars (chr first) (fun db i => (db, (i : Int))) (fun db => db) (fun r db => db.length + sm cat r ≤ 50000) (by
      intro i c r db hxc hI
      rw [sm_cons] at hI
      have hm := List.mem_of_getElem? hxc
      have hi := (List.getElem?_eq_some_iff.1 hxc).1
      have hcl := hs.cl
      have hcat : cat c = 2 + c.More.length + (if cfg c = true then 1 else 0) := rfl
      refine ⟨?_, by rw [chr_len]; omega⟩
      show wirelessref43_Build_l2 F l first (k : Int) db (i : Int) = _
      unfold wirelessref43_Build_l2
      rw [idx_nat, hx, Option.bind_some, if_pos (dt (show (i : Int) < len s.Chars by rw [len_nat]; omega)), Option.bind_some, idx_nat, hxc, Option.bind_some, rchr F first h0 h1 c (hs.c c hm) (hv c hm) (by omega) db (by omega) (by omega), Option.bind_some, w64_nat i (by omega)]) (by
      intro db _
      show wirelessref43_Build_l2 F l first (k : Int) db (s.Chars.length : Int) = _
      unfold wirelessref43_Build_l2
      rw [idx_nat, hx, Option.bind_some, if_neg (df (by rw [len_nat]; omega))]) F 0 (svh first db s) (by omega) (by rw [List.drop_zero]; unfold svh; rw [adS_len]; omega) (by have := hs.cl; omega)
    rw [List.drop_zero] at this
    show ((iter (fun t : List T_api_Attribute × Int => wirelessref43_Build_l2 F l first (k : Int) t.1 t.2) F (svh first db s, ((0 : Nat) : Int))).bind fun o => wirelessref43_Build_j2 F (k : Int) o) = _
    rw [this, Option.bind_some]
    unfold wirelessref43_Build_j2
    rw [w64_nat k (by omega)]
    rfl
  unfold wirelessref43_Build_l1
  rw [if_pos (dt (show (k : Int) < len l by rw [len_nat]; omega)), idx_nat, hx, Option.bind_some]
  unfold knd at fin
  by_cases hp : s.Primary = true
  · rw [if_pos hp]
    exact fin _ (by rw [if_pos hp])
  · rw [if_neg hp]
    exact fin _ (by rw [if_neg hp])
theorem rbld (F : Nat) (first : Int) (h0 : 0 ≤ first) (h1 : first < 65536) (l : List T_api_Service) (ho : LOk l) (hv : ∀ s ∈ l, VS s) (hd : ct l ≤ 50000) (hF : 140737488355400 < F) : iter (fun s : List T_api_Attribute × Int => wirelessref43_Build_l1 F l first s.1 s.2) F ([], 0) = some (bld first l) := by
  have hll := ho.2
  have := iter_fold (body := fun t : List T_api_Attribute × Int => wirelessref43_Build_l1 F l first t.1 t.2) l (svc first) (fun db i => (db, (i : Int))) (fun db => db) (fun r db => db.length + sm sat r ≤ 50000) (by
    intro i s r db hx hI
    rw [sm_cons] at hI
    have hm := List.mem_of_getElem? hx
    have hi := (List.getElem?_eq_some_iff.1 hx).1
    refine ⟨rsvc F first h0 h1 s (ho.1 s hm) (hv s hm) i (by omega) db (by omega) hF l hx, by rw [svc_len]; omega⟩) (by
    intro db _
    show wirelessref43_Build_l1 F l first db (l.length : Int) = _
    unfold wirelessref43_Build_l1
    rw [if_neg (df (by rw [len_nat]; omega))]) F 0 [] (by omega) (by rw [List.drop_zero]; simpa [ct] using hd) (by omega)
  rw [List.drop_zero] at this
  exact this
/-- What Build returns. -/
def bres (l : List T_api_Service) (first : Int) (r : Int × Int) : List T_api_Attribute × Int :=
  if (first == 0) = true then ([], 5) else if (r.2 != 0) = true then ([], r.2) else if decide (r.1 > 1000) = true then ([], 4) else if decide (w64 (w64 (w64 first + r.1) - 1) > 65535) = true then ([], 8) else (bld first l, 0)
theorem build_both (F : Nat) (first : Int) (h0 : 0 ≤ first) (h1 : first < 65536) (l : List T_api_Service) (ho : LOk l) (hv : ∀ s ∈ l, VS s) (hd : ct l ≤ 50000) (hF : 140737488355400 < F) : ∃ r, (r.2 = 0 → r.1 = (ct l : Int) ∧ ∀ s ∈ l, Sok s) ∧ database_Build F l first = some (bres l first r) ∧ wirelessref43_Build F l first = some (bres l first r) := by
  obtain ⟨r, h2, h3⟩ := count_ok F ho (by omega) hF
  have h4 := h2
  rw [count_eq F ho.1 (by omega)] at h4
  refine ⟨r, h3, ?_, ?_⟩
  · unfold database_Build bres
    rw [h2, Option.bind_some, ubld F first h0 h1 l ho hv hd hF, Option.bind_some]
    generalize decide (w64 (w64 (w64 first + r.1) - 1) > 65535) = b
    generalize decide (r.1 > 1000) = c
    generalize (r.2 != 0) = d
    generalize (first == 0) = e
    cases b <;> cases c <;> cases d <;> cases e <;> rfl
  · unfold wirelessref43_Build bres
    rw [h4, Option.bind_some, rbld F first h0 h1 l ho hv hd hF, Option.bind_some]
    generalize decide (w64 (w64 (w64 first + r.1) - 1) > 65535) = b
    generalize decide (r.1 > 1000) = c
    generalize (r.2 != 0) = d
    generalize (first == 0) = e
    cases b <;> cases c <;> cases d <;> cases e <;> rfl
end V
end Go.Proofs.Ytchlimkophmjlaa
