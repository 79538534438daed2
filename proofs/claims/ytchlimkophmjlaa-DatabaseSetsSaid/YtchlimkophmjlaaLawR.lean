/-
  Found of the program.
-/
import Derived.Test.YtchlimkophmjlaaLawC
import Derived.Test.YtchlimkophmjlaaLawP
namespace Go.Proofs.Ytchlimkophmjlaa
namespace V
theorem iter_fold2 {S O α β : Type} {body : S → Option (Out S O)} (l : List α) (f : β → α → β) (st : β → Nat → S) (o : β → O) (I : Nat → β → Prop)
    (h : ∀ (i : Nat) x b, l[i]? = some x → I i b → body (st b i) = some (.next (st (f b x) (i + 1))) ∧ I (i + 1) (f b x))
    (hd : ∀ b, I l.length b → body (st b l.length) = some (.done (o b))) :
    ∀ (F i : Nat) (b : β), i ≤ l.length → I i b → l.length - i < F → iter body F (st b i) = some (o ((l.drop i).foldl f b))
  | 0, i, b, _, _, hF => by omega
  | F + 1, i, b, hi, hI, hF => by
    by_cases hin : i < l.length
    · have hx : l[i]? = some l[i] := List.getElem?_eq_getElem hin
      have hdr : l.drop i = l[i] :: l.drop (i + 1) := List.drop_eq_getElem_cons hin
      obtain ⟨h1, h2⟩ := h i _ b hx hI
      rw [iter_step h1, iter_fold2 l f st o I h hd F (i + 1) _ hin h2 (by omega), hdr, List.foldl_cons]
    · have : i = l.length := by omega
      subst this
      rw [iter_stop (hd b hI), List.drop_length]
      rfl
/-- What Found says of an attribute. -/
def dsc (b : List Int) : Int × Int × T_api_UUID × Bool := if (prt b).2.2.2 = true then prt b else (0, 0, UZ, false)
def ent (G : Int → Int × Bool) (a : T_api_Attribute) : T_api_Found :=
  if isv a.f_Type = true then T_api_Found.mk a.Handle (G a.Handle).1 0 0 (decU a.Value).1
  else if isN a.f_Type 10243 = true then T_api_Found.mk a.Handle 0 (dsc a.Value).2.1 (dsc a.Value).1 (dsc a.Value).2.2.1
  else T_api_Found.mk a.Handle 0 0 0 a.f_Type
def fdd (G : Int → Int × Bool) (b : List T_api_Found × Bool) (a : T_api_Attribute) : List T_api_Found × Bool := (if b.2 = true then b.1 else b.1 ++ [ent G a], isN a.f_Type 10243)
def pcAt (db : List T_api_Attribute) : Nat → Bool
  | 0 => false
  | k + 1 => match db[k]? with
    | some a => isN a.f_Type 10243
    | none => false
theorem pcAt_succ {db : List T_api_Attribute} {k : Nat} {a : T_api_Attribute} (h : db[k]? = some a) : pcAt db (k + 1) = isN a.f_Type 10243 := by
  show (match db[k]? with
    | some a => isN a.f_Type 10243
    | none => false) = _
  rw [h]
theorem ufound (F : Nat) (db : List T_api_Attribute) (hdb : ∀ a ∈ db, AOk a) (hn : db.length ≤ 100000) (hF : db.length + 20 < F) : database_Found F db = some (db.foldl (fdd (grp db)) ([], false)).1 := by
  unfold database_Found
  have := iter_fold2 (body := fun s : List T_api_Found × Int => database_Found_l1 F db s.1 s.2) db (fdd (grp db)) (fun b i => (b.1, (i : Int))) (fun b => b.1) (fun i b => b.1.length ≤ i ∧ b.2 = pcAt db i) (by
    rintro i a ⟨l, pc⟩ hx ⟨hl, hpc⟩
    simp only at hl hpc
    have hi := (List.getElem?_eq_some_iff.1 hx).1
    have ha := hdb a (List.mem_of_getElem? hx)
    refine ⟨?_, ?_, ?_⟩
    · show database_Found_l1 F db l (i : Int) = some (.next ((if pc = true then l else l ++ [ent (grp db) a]), ((i + 1 : Nat) : Int)))
      unfold database_Found_l1
      rw [if_pos (dt (show (i : Int) < len db by rw [len_nat]; omega)), idx_nat, hx, Option.bind_some]
      have hz : (if decide ((i : Int) > 0) = true then (idx db (w64 ((i : Int) - 1))).bind fun x_22 => (database_is F x_22.f_Type [10243]).bind fun x_23 => some x_23 else some false) = some pc := by
        cases i with
        | zero => rw [hpc]; rfl
        | succ k =>
          have hxk : db[k]? = some db[k] := List.getElem?_eq_getElem (by omega)
          have hak := hdb _ (List.getElem_mem (show k < db.length by omega))
          generalize db[k] = b at hxk hak
          rw [if_pos (dt (by omega)), w64_id (by omega) (by omega), show ((k + 1 : Nat) : Int) - 1 = (k : Int) from by omega, idx_nat, hxk, Option.bind_some, is1 F hak.u 10243 (by omega) (by decide) (by decide), Option.bind_some, hpc, pcAt_succ hxk]
      rw [hz, Option.bind_some]
      have hj : ∀ c : T_api_Found, c.Handle = a.Handle → database_Found_j3 F l (i : Int) a c = some (.next (l ++ [c], ((i + 1 : Nat) : Int))) := by
        intro c hc
        unfold database_Found_j3
        rw [app_small (by simp; omega) (by omega), Option.bind_some]
        unfold database_Found_j2
        rw [w64_nat i (by omega)]
        cases c
        simp only at hc
        subst hc
        rfl
      cases pc with
      | true =>
        rw [if_pos rfl, if_pos rfl]
        unfold database_Found_j2
        rw [w64_nat i (by omega)]
      | false =>
        rw [if_neg (by decide), if_neg (by decide), service_ok F ha.u (by omega), Option.bind_some]
        unfold ent
        by_cases hs : isv a.f_Type = true
        · rw [if_pos hs, if_pos hs, ugroup F db hdb _ (by omega) (by omega), Option.bind_some, udecode F ha.b (by omega), Option.bind_some]
          exact hj _ rfl
        · rw [if_neg hs, if_neg hs, is1 F ha.u 10243 (by omega) (by decide) (by decide), Option.bind_some]
          by_cases hc : isN a.f_Type 10243 = true
          · rw [if_pos hc, if_pos hc, udescribed F ha.b (by omega), Option.bind_some]
            exact hj _ rfl
          · rw [if_neg hc, if_neg hc]
            exact hj _ rfl
    · show (if pc = true then l else l ++ [ent (grp db) a]).length ≤ i + 1
      by_cases h : pc = true
      · rw [if_pos h]; omega
      · rw [if_neg h]; simp; omega
    · show isN a.f_Type 10243 = pcAt db (i + 1)
      rw [pcAt_succ hx]) (by
    intro b _
    show database_Found_l1 F db b.1 (db.length : Int) = _
    unfold database_Found_l1
    rw [if_neg (df (by rw [len_nat]; omega))]) F 0 ([], false) (by omega) ⟨by simp, rfl⟩ (by omega)
  rw [List.drop_zero] at this
  rw [show (([], 0) : List T_api_Found × Int) = ((([] : List T_api_Found), false).1, ((0 : Nat) : Int)) from rfl, this, Option.bind_some]
  rfl

theorem fnd_len (G : Int → Int × Bool) : ∀ (l : List T_api_Attribute) (b : List T_api_Found × Bool), (l.foldl (fdd G) b).1.length ≤ b.1.length + l.length
  | [], b => by simp
  | a :: l, b => by
    rw [List.foldl_cons, List.length_cons]
    have h1 := fnd_len G l (fdd G b a)
    have h2 : (fdd G b a).1.length ≤ b.1.length + 1 := by
      unfold fdd
      simp only
      by_cases h : b.2 = true
      · rw [if_pos h]; omega
      · rw [if_neg h]; simp
    omega
end V
end Go.Proofs.Ytchlimkophmjlaa
