/-
  What the row says of the whole program, fact by fact.
-/
import Derived.Test.YtladkmnfmpojiaaGreatDoorRows
import Derived.JoinedOf
import Derived.LaidByTextLater
import Derived.SevenTiedAt
import Derived.Lib.LaidTab
import Derived.KernelRfl
namespace Go.Proofs.YtladkmnfmpojiaaGreatDoor
namespace Z
set_option maxRecDepth 100000
/-! ### Texts, and a program's functions by their names -/
noncomputable def eqL (a : List UInt8) : List UInt8 → Bool := List.rec (motive := fun _ => List UInt8 → Bool) (fun b => List.rec true (fun _ _ _ => false) b) (fun x _ ih b => List.rec false (fun y b _ => Bool.rec false (ih b) (Nat.beq x.toNat y.toNat)) b) a
theorem eqL_iff : ∀ a b : List UInt8, eqL a b = true ↔ a = b
  | [], [] => ⟨fun _ => rfl, fun _ => rfl⟩
  | [], _ :: _ => ⟨fun h => (by cases h), fun h => (by cases h)⟩
  | _ :: _, [] => ⟨fun h => (by cases h), fun h => (by cases h)⟩
  | x :: a, y :: b => by
    show (Bool.rec false (eqL a b) (Nat.beq x.toNat y.toNat) : Bool) = true ↔ _
    cases h : Nat.beq x.toNat y.toNat with
    | false => 
      refine ⟨fun h => (by cases h), fun e => ?_⟩
      injection e with e1 _
      rw [e1, show Nat.beq y.toNat y.toNat = true from Nat.beq_refl _] at h
      cases h
    | true =>
      have e : x = y := UInt8.toNat_inj.1 (Nat.eq_of_beq_eq_true h)
      show eqL a b = true ↔ _
      rw [eqL_iff a b, e]
      exact ⟨fun h => by rw [h], fun h => by injection h⟩
/-- texts by their bytes -/
noncomputable def eqB (a b : String) : Bool := eqL (nameBytes a) (nameBytes b)
theorem beqB (a b : String) : (a == b) = eqB a b := by
  rw [Bool.eq_iff_iff, beq_iff_eq]
  unfold eqB
  rw [eqL_iff]
  unfold nameBytes
  refine ⟨fun h => by rw [h], fun h => ?_⟩
  have h1 : a.toUTF8.data = b.toUTF8.data := Array.toList_inj.1 h
  have h2 : a.toUTF8 = b.toUTF8 := ByteArray.ext h1
  exact String.toByteArray_inj.1 h2
/-- the numbers of those that pass -/
noncomputable def en {α : Type} (q : α → Bool) (l : List α) : Nat → List Nat := List.rec (motive := fun _ => Nat → List Nat) (fun _ => []) (fun f _ ih n => Bool.rec (ih (n + 1)) (n :: ih (n + 1)) (q f)) l
theorem en_eq {α : Type} (q : α → Bool) : ∀ (l : List α) (n : Nat), ((List.range' n l.length).filter fun i => (l[i - n]?).any q) = en q l n
  | [], _ => rfl
  | f :: l, n => by
    have ih := en_eq q l (n + 1)
    rw [List.length_cons, List.range'_succ, List.filter_cons, Nat.sub_self]
    have e : (List.filter (fun i => Option.any q (f :: l)[i - n]?) (List.range' (n + 1) l.length)) = en q l (n + 1) := by
      rw [← ih]
      refine List.filter_congr fun i hi => ?_
      have h1 := (List.mem_range'_1.1 hi).1
      rw [show i - n = (i - (n + 1)) + 1 by omega, List.getElem?_cons_succ]
    rw [e]
    show _ = (Bool.rec (en q l (n + 1)) (n :: en q l (n + 1)) (q f) : List Nat)
    cases hq : q f <;> simp [hq]
theorem fnd {P : Program} {n : String} {i : Nat} (h : en (fun f : Func => eqB f.name n) P.funcs.toList 0 = [i]) : P.funcNamed n = some i := by
  unfold Program.funcNamed
  have e : ((List.range P.funcs.size).filter fun i => (P.funcs[i]?).any (·.name == n)) = [i] := by
    rw [← h, ← en_eq, List.range_eq_range', Array.length_toList]
    refine List.filter_congr fun j _ => ?_
    rw [Nat.sub_zero, Array.getElem?_toList]
    simp only [beqB]
  rw [e]
theorem fnVars : Tryz.prog.funcNamed "gosem.cut.vars" = some 988 := fnd (by kernel_rfl)
theorem fnTop : Tryz.prog.funcNamed "wireless/wirelesstop.TopPrivacy" = some 3 := fnd (by kernel_rfl)
/-- lookups by a list -/
noncomputable def em {α β : Type} (q : α → Option β) (l : List α) : Nat → List (Nat × β) := List.rec (motive := fun _ => Nat → List (Nat × β)) (fun _ => []) (fun f _ ih n => Option.rec (ih (n + 1)) (fun b => (n, b) :: ih (n + 1)) (q f)) l
theorem em_cons {α β : Type} (q : α → Option β) (f : α) (l : List α) (n : Nat) : em q (f :: l) n = (match q f with | none => em q l (n + 1) | some b => (n, b) :: em q l (n + 1)) := by
  show (Option.rec (em q l (n + 1)) (fun b => (n, b) :: em q l (n + 1)) (q f) : List (Nat × β)) = _
  cases q f <;> rfl
theorem em_lt {α β : Type} (q : α → Option β) : ∀ (l : List α) (n k : Nat), k < n → (em q l n).lookup k = none
  | [], _, _, _ => rfl
  | f :: l, n, k, h => by
    rw [em_cons]
    have ih := em_lt q l (n + 1) k (by omega)
    cases q f with
    | none => exact ih
    | some b => rw [List.lookup_cons, show (k == n) = false from beq_false_of_ne (by omega)]; exact ih
theorem em_eq {α β : Type} (q : α → Option β) : ∀ (l : List α) (n k : Nat), (em q l n).lookup (n + k) = (l[k]?).bind q
  | [], _, _ => rfl
  | f :: l, n, 0 => by
    rw [em_cons]
    show _ = q f
    cases q f with
    | none => exact em_lt q l (n + 1) n (by omega)
    | some b => rw [List.lookup_cons, Nat.add_zero, beq_self_eq_true]
  | f :: l, n, k + 1 => by
    rw [em_cons, List.getElem?_cons_succ, ← em_eq q l (n + 1) k, show n + (k + 1) = n + 1 + k by omega]
    cases q f with
    | none => rfl
    | some b => rw [List.lookup_cons, show (n + 1 + k == n) = false from beq_false_of_ne (by omega)]
theorem em_at {β : Type} (P : Program) (q : Func → Option β) (g : Nat) : (P.funcs[g]?).bind q = (em q P.funcs.toList 0).lookup g := by
  rw [← Array.getElem?_toList, ← em_eq q _ 0 g, Nat.zero_add]
/-- no function is one that stops -/
noncomputable def rowN (fn : Func) : Bool := fn.body.isSome || (Extern.FmtCalls.table.all fun r => !eqB r.name fn.name && !eqB r.name fn.origin) && (Stop.rows.all fun r => !eqB r.name fn.name && !eqB r.name fn.origin)
theorem find_n {l : List Extern.Stop.Row} {fn : Func} (h : (l.all fun r => !eqB r.name fn.name && !eqB r.name fn.origin) = true) : l.find? (·.name == fn.name) = none ∧ l.find? (·.name == fn.origin) = none := by
  rw [List.all_eq_true] at h
  refine ⟨List.find?_eq_none.2 fun r hr => ?_, List.find?_eq_none.2 fun r hr => ?_⟩
  · have := h r hr
    rw [beqB]
    cases h1 : eqB r.name fn.name with
    | false => exact Bool.false_ne_true
    | true => rw [h1] at this; cases this
  · have := h r hr
    rw [beqB]
    cases h1 : eqB r.name fn.origin with
    | false => exact Bool.false_ne_true
    | true => rw [h1, Bool.not_true, Bool.and_false] at this; cases this
theorem rowN_none {fn : Func} (h : rowN fn = true) : Stop.rowOf fn = none := by
  unfold Stop.rowOf
  unfold rowN at h
  cases hb : fn.body with
  | some c => rfl
  | none =>
    rw [hb] at h
    have h' : ((Extern.FmtCalls.table.all fun r => !eqB r.name fn.name && !eqB r.name fn.origin) && (Stop.rows.all fun r => !eqB r.name fn.name && !eqB r.name fn.origin)) = true := h
    rw [Bool.and_eq_true] at h'
    rw [(find_n h'.1).1, (find_n h'.1).2, (find_n h'.2).1, (find_n h'.2).2]
    rfl
theorem noRow : (Tryz.prog.funcs.toList.all rowN) = true := by kernel_rfl
theorem rows_nil : Tryz.prog.funcs.toList.filterMap Stop.rowOf = [] := List.filterMap_eq_nil_iff.2 fun f hf => rowN_none (List.all_eq_true.1 noRow f hf)
theorem noKnobs : Tryz.prog.stopKnobs = [] := by
  unfold Program.stopKnobs
  rw [rows_nil]
  rfl
theorem noStops : Tryz.prog.stops = [] := by
  unfold Program.stops
  rw [List.filterMap_eq_nil_iff.2 fun f hf => by rw [rowN_none (List.all_eq_true.1 noRow f hf)]; rfl]
  rfl
theorem heard : Tryz.prog.stopsHeard = true := by
  unfold Program.stopsHeard
  rw [← Array.all_toList, List.all_eq_true]
  intro f hf
  rw [rowN_none (List.all_eq_true.1 noRow f hf)]
  rfl
theorem lays : Tryz.prog.laysLater = false := by
  unfold Program.laysLater
  rw [← Array.any_toList]
  simp only [beqB]
  kernel_rfl
theorem refls : Tryz.prog.bearsReflect = false := by kernel_rfl
theorem enters : Tryz.prog.mayEnter = true := by
  unfold Program.mayEnter
  rw [lays, refls]
  kernel_rfl
/-! ### What the asked function reaches -/
noncomputable section
def fN {β : Type} (n : Nat) (k : Nat → β) : β := Nat.rec (motive := fun _ => β) (k 0) (fun m _ => k m) (Nat.succ n)
/-- A list laid before another, its numbers reckoned. -/
def ap {β : Type} (l t : List Nat) (k : List Nat → β) : β := List.rec (motive := fun _ => (List Nat → β) → β) (fun k => k t) (fun a _ ih k => fN a fun a => ih fun r => k (a :: r)) l k
inductive Cst where | mk (todo : List Nat) (mask : Nat) (acc : List Nat)
/-- Steps of the closure, what was seen as a set of bits. -/
def cv (P : Program) (n : Nat) : List Nat → Nat → List Nat → Cst :=
  Nat.rec (motive := fun _ => List Nat → Nat → List Nat → Cst) (fun t m acc => .mk t m acc)
    (fun _ go t m acc => List.rec (motive := fun _ => Cst) (.mk [] m acc) (fun f t _ =>
      Bool.rec (ap ((P.funcs.toList[f]?).elim [] P.leadsTo) t fun t => fN (m ||| 1 <<< f) fun m => go t m (f :: acc)) (go t m acc) (Nat.testBit m f)) t) n
def Cst.go (P : Program) (n : Nat) (c : Cst) : Cst := Cst.rec (fun t m acc => cv P n t m acc) c
def Cst.acc (c : Cst) : List Nat := Cst.rec (fun _ _ a => a) c
theorem fN_eq {β : Type} (n : Nat) (k : Nat → β) : fN n k = k n := rfl
theorem ap_eq {β : Type} : ∀ (l t : List Nat) (k : List Nat → β), ap l t k = k (l ++ t)
  | [], _, _ => rfl
  | a :: l, t, k => by
    show fN a (fun a => ap l t fun r => k (a :: r)) = _
    rw [fN_eq, ap_eq l t]
    rfl
/-- What a step keeps: the bits are those of the numbers seen. -/
def Cst.ok (c : Cst) : Prop := Cst.rec (fun _ m acc => ∀ f, Nat.testBit m f = acc.contains f) c
def Cst.via (P : Program) (n : Nat) (c : Cst) : List FuncId := Cst.rec (fun t _ acc => P.closureVia n t acc) c
theorem via_nil (P : Program) (n : Nat) (acc : List FuncId) : P.closureVia n [] acc = acc.reverse := by cases n <;> rfl
theorem cv_via (P : Program) : ∀ (n : Nat) (t : List Nat) (m : Nat) (acc : List Nat), (Cst.mk t m acc).ok → (cv P n t m acc).ok ∧ ∀ k, P.closureVia (n + k) t acc = (cv P n t m acc).via P k
  | 0, t, m, acc, h => ⟨h, fun k => by rw [Nat.zero_add]; rfl⟩
  | n + 1, [], m, acc, h => ⟨h, fun k => by
      show _ = P.closureVia k [] acc
      rw [via_nil, via_nil]⟩
  | n + 1, f :: t, m, acc, h => by
    have h' : ∀ f, Nat.testBit m f = acc.contains f := h
    have e : cv P (n + 1) (f :: t) m acc = (Bool.rec (ap ((P.funcs.toList[f]?).elim [] P.leadsTo) t fun t => fN (m ||| 1 <<< f) fun m => cv P n t m (f :: acc)) (cv P n t m acc) (Nat.testBit m f) : Cst) := rfl
    cases hb : Nat.testBit m f with
    | true =>
      rw [hb] at e
      have e' : cv P (n + 1) (f :: t) m acc = cv P n t m acc := e
      rw [e']
      refine ⟨(cv_via P n t m acc h).1, fun k => ?_⟩
      rw [← (cv_via P n t m acc h).2 k, show n + 1 + k = (n + k) + 1 by omega]
      show (if acc.contains f then P.closureVia (n + k) t acc else _) = _
      rw [if_pos (by rw [← h' f, hb])]
    | false =>
      rw [hb] at e
      have e' : cv P (n + 1) (f :: t) m acc = cv P n ((P.funcs[f]?).elim [] P.leadsTo ++ t) (m ||| 1 <<< f) (f :: acc) := by
        rw [e]
        show ap _ t _ = _
        rw [ap_eq, fN_eq, Array.getElem?_toList]
      have hk : (Cst.mk ((P.funcs[f]?).elim [] P.leadsTo ++ t) (m ||| 1 <<< f) (f :: acc)).ok := by
        show ∀ g, Nat.testBit (m ||| 1 <<< f) g = (f :: acc).contains g
        intro g
        rw [Nat.testBit_or, h' g, Nat.one_shiftLeft, Nat.testBit_two_pow, List.contains_cons, Bool.or_comm]
        congr 1
        rw [Bool.eq_iff_iff, decide_eq_true_iff, beq_iff_eq]
        exact eq_comm
      rw [e']
      refine ⟨(cv_via P n _ _ _ hk).1, fun k => ?_⟩
      rw [← (cv_via P n _ _ _ hk).2 k, show n + 1 + k = (n + k) + 1 by omega]
      show (if acc.contains f then _ else P.closureVia (n + k) ((P.funcs[f]?).elim [] P.leadsTo ++ t) (f :: acc)) = _
      rw [if_neg (by rw [← h' f, hb]; exact Bool.false_ne_true)]
theorem go_via {P : Program} {n : Nat} {c d : Cst} (e : d = c.go P n) (h : c.ok) : d.ok ∧ ∀ k, c.via P (n + k) = d.via P k := by
  subst e
  cases c with
  | mk t m acc => exact cv_via P n t m acc h
def rv (l t : List Nat) : List Nat := List.rec (motive := fun _ => List Nat → List Nat) (fun t => t) (fun a _ ih t => ih (a :: t)) l t
theorem rv_eq : ∀ l t : List Nat, rv l t = l.reverse ++ t
  | [], _ => rfl
  | a :: l, t => by
    show rv l (a :: t) = _
    rw [rv_eq l, List.reverse_cons, List.append_assoc]
    rfl
def k0 : Cst := .mk [3] 0 []
set_option maxHeartbeats 0 in
def k1 : {c : Cst // c = k0.go Tryz.prog 500} := ⟨_, by conv => { rhs; whnf }⟩
set_option maxHeartbeats 0 in
def k2 : {c : Cst // c = k1.1.go Tryz.prog 500} := ⟨_, by conv => { rhs; whnf }⟩
set_option maxHeartbeats 0 in
def k3 : {c : Cst // c = k2.1.go Tryz.prog 500} := ⟨_, by conv => { rhs; whnf }⟩
set_option maxHeartbeats 0 in
def k4 : {c : Cst // c = k3.1.go Tryz.prog 500} := ⟨_, by conv => { rhs; whnf }⟩
set_option maxHeartbeats 0 in
def kx : {l : List Nat // l = k4.1.acc} := ⟨_, by conv => { rhs; whnf }⟩
set_option maxHeartbeats 0 in
/-- The numbers of what the asked function reaches. -/
def reach : {l : List Nat // l = rv kx.1 []} := ⟨_, by conv => { rhs; whnf }⟩
def Cst.done (c : Cst) : Bool := Cst.rec (fun t _ _ => List.rec true (fun _ _ _ => false) t) c
theorem via_done {P : Program} : ∀ {c : Cst}, c.done = true → ∀ k, c.via P k = rv c.acc []
  | .mk [] _ acc, _, k => by
    show P.closureVia k [] acc = rv acc []
    rw [via_nil, rv_eq, List.append_nil]
  | .mk (_ :: _) _ _, h, _ => by cases h
end
theorem fuelE : decide (1999 ≤ (Tryz.prog.funcs.toList.map fun g => (Tryz.prog.leadsTo g).length + 1).sum) = true := by kernel_rfl
theorem clo : Tryz.prog.closure 3 = reach.1 := by
  have h0 : k0.ok := fun f => by rw [Nat.zero_testBit]; rfl
  have h1 := go_via k1.2 h0
  have h2 := go_via k2.2 h1.1
  have h3 := go_via k3.2 h2.1
  have h4 := go_via k4.2 h3.1
  obtain ⟨k, hk⟩ := Nat.exists_eq_add_of_le (of_decide_eq_true fuelE)
  unfold Program.closure
  rw [hk, show 1 + (1999 + k) = 500 + (500 + (500 + (500 + k))) by omega]
  show k0.via Tryz.prog _ = _
  rw [h1.2, h2.2, h3.2, h4.2, via_done (by kernel_rfl)]
  exact (reach.2.trans (congrArg (fun a => rv a []) kx.2)).symm
theorem unf : Tryz.prog.unfollowed 3 = true := by
  unfold Program.unfollowed
  rw [clo]
  kernel_rfl
theorem recs : Tryz.prog.recurses 3 = true := by
  unfold Program.recurses
  rw [unf]
  rfl
theorem inTab : em (fun fn : Func => if fn.ours || fn.body.isNone || eqB fn.name "runtime.NumGoroutine" then some fn.name else none) Tryz.prog.funcs.toList 0 = [(0, Tryz.f0.name), (1, Tryz.f1.name), (196, Tryz.f196.name), (269, Tryz.f269.name), (722, Tryz.f722.name), (892, Tryz.f892.name), (899, Tryz.f899.name), (903, Tryz.f903.name), (905, Tryz.f905.name), (906, Tryz.f906.name), (907, Tryz.f907.name), (908, Tryz.f908.name), (909, Tryz.f909.name), (910, Tryz.f910.name), (911, Tryz.f911.name), (912, Tryz.f912.name), (913, Tryz.f913.name), (914, Tryz.f914.name), (915, Tryz.f915.name), (916, Tryz.f916.name), (917, Tryz.f917.name), (918, Tryz.f918.name), (919, Tryz.f919.name), (920, Tryz.f920.name), (921, Tryz.f921.name), (949, Tryz.f949.name), (982, Tryz.f982.name), (983, Tryz.f983.name), (984, Tryz.f984.name), (985, Tryz.f985.name), (986, Tryz.f986.name), (987, Tryz.f987.name)] := by kernel_rfl
theorem inPl : (Rows.topPrivacyRow.inPlace == Tryz.prog.inPlace 3) = true := by
  have e : Tryz.prog.inPlace 3 = Rows.topPrivacyRow.inPlace := by
    unfold Program.inPlace
    simp only [beqB, em_at]
    rw [clo, inTab]
    kernel_rfl
  rw [e]
  exact beq_self_eq_true _
noncomputable def glN (fn : Func) : Option (List Nat) := List.rec none (fun a r _ => some (a :: r)) (fn.body.elim [] Code.globalsNamed)
theorem glN_eq (o : Option Func) : (o.bind (·.body)).elim [] Code.globalsNamed = (o.bind glN).getD [] := by
  cases o with
  | none => rfl
  | some fn =>
    show fn.body.elim [] Code.globalsNamed = (glN fn).getD []
    unfold glN
    cases fn.body.elim [] Code.globalsNamed <;> rfl
theorem glTab : em glN Tryz.prog.funcs.toList 0 = [(14, [0]), (46, [0, 0]), (461, [1, 1]), (626, [2]), (896, [3, 3, 3]), (988, [2, 0, 1])] := by kernel_rfl
theorem rdTab : em (fun fn : Func => if fn.body.isNone then entryReads.lookup fn.name else none) Tryz.prog.funcs.toList 0 = [(899, "internal/bytealg.MaxLen")] := by kernel_rfl
theorem nam : (Rows.topPrivacyRow.named == Tryz.prog.varsNamed 3) = true := by
  have e : Tryz.prog.varsNamed 3 = Rows.topPrivacyRow.named := by
    unfold Program.varsNamed
    simp only [glN_eq]
    simp only [em_at]
    rw [clo, glTab, rdTab]
    kernel_rfl
  rw [e]
  exact beq_self_eq_true _
end Z
end Go.Proofs.YtladkmnfmpojiaaGreatDoor
