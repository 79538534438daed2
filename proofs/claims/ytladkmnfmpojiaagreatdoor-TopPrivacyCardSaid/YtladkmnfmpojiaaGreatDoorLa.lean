/-
  Values, operations and memory of the model: laws for walks.
-/
import GoSem.Core.View
import Derived.Calls
import Derived.Tactics
import Derived.Orders
import Derived.OrdersHeld
import Derived.Laws.AppendOwn
import Derived.Laws.OwnMore
import Derived.Laws.MakeOwn
import Derived.Laws.CopyRow
import Derived.Maps.AppendAt
import Derived.Laws.Strings
namespace Go.Proofs.YtladkmnfmpojiaaGreatDoor
namespace V

/-- What one round of a loop comes to. -/
inductive Out (S O : Type) where
  | next (s : S)
  | done (o : O)

def iter {S O : Type} (body : S → Option (Out S O)) : Nat → S → Option O
  | 0, _ => none
  | n + 1, s => match body s with
    | none => none
    | some (.next s') => iter body n s'
    | some (.done o) => some o

theorem iter_inv {S O : Type} {body : S → Option (Out S O)} {n : Nat} {s : S} {o : O} (h : iter body n s = some o) :
    ∃ m q, n = m + 1 ∧ body s = some q ∧ ((∃ s', q = .next s' ∧ iter body m s' = some o) ∨ q = .done o) := by
  cases n with
  | zero => cases h
  | succ m =>
    cases hb : body s with
    | none => simp [iter, hb] at h
    | some q =>
      refine ⟨m, q, rfl, rfl, ?_⟩
      cases q with
      | next s' => simp [iter, hb] at h; exact .inl ⟨s', rfl, h⟩
      | done o' => simp [iter, hb] at h; subst h; exact .inr rfl

theorem bind_swap {α β γ : Type} {a : Option α} {b : Option β} {K : α → β → Option γ} {q : γ} (h : (a.bind fun x => b.bind fun y => K x y) = some q) : (b.bind fun y => a.bind fun x => K x y) = some q := by
  cases a <;> cases b <;> simp_all
theorem bind_inv {α β : Type} {e : Option α} {f : α → Option β} {q : β} (h : e.bind f = some q) : ∃ x, e = some x ∧ f x = some q := by
  cases e with
  | none => cases h
  | some x => exact ⟨x, rfl, h⟩

theorem ite_inv {α : Type} {c : Bool} {x y : Option α} {q : α} (h : (if c = true then x else y) = some q) : (c = true ∧ x = some q) ∨ (c = false ∧ y = some q) := by
  cases c
  · exact .inr ⟨rfl, by simpa using h⟩
  · exact .inl ⟨rfl, by simpa using h⟩

def w64 (x : Int) : Int := (x + 9223372036854775808) % 18446744073709551616 - 9223372036854775808
def wu64 (x : Int) : Int := x % 18446744073709551616
def wu32 (x : Int) : Int := x % 4294967296
def wu16 (x : Int) : Int := x % 65536
def wu8 (x : Int) : Int := x % 256

theorem w64_id {x : Int} (h1 : -9223372036854775808 ≤ x) (h2 : x < 9223372036854775808) : w64 x = x := by unfold w64; omega
theorem wu64_id {x : Int} (h1 : 0 ≤ x) (h2 : x < 18446744073709551616) : wu64 x = x := by unfold wu64; omega
theorem wu32_id {x : Int} (h1 : 0 ≤ x) (h2 : x < 4294967296) : wu32 x = x := by unfold wu32; omega
theorem wu16_id {x : Int} (h1 : 0 ≤ x) (h2 : x < 65536) : wu16 x = x := by unfold wu16; omega
theorem wu8_id {x : Int} (h1 : 0 ≤ x) (h2 : x < 256) : wu8 x = x := by unfold wu8; omega

theorem wrap_i64 (x : Int) : IntKind.i64.wrap x = w64 x := by
  unfold w64 IntKind.wrap
  simp only [IntKind.bits, IntKind.signed, Nat.reduceSub]
  simp only [show (2 : Int) ^ 64 = 18446744073709551616 from rfl, show (2 : Int) ^ 63 = 9223372036854775808 from rfl]
  simp only [Bool.true_and, decide_eq_true_eq]
  split <;> omega
theorem wrap_u64 (x : Int) : IntKind.u64.wrap x = wu64 x := rfl
theorem wrap_u32 (x : Int) : IntKind.u32.wrap x = wu32 x := rfl
theorem wrap_u16 (x : Int) : IntKind.u16.wrap x = wu16 x := rfl
theorem wrap_u8 (x : Int) : IntKind.u8.wrap x = wu8 x := rfl

/-- Bit operations, as the model has them. -/
def iand (k : IntKind) (x y : Int) : Int := k.wrap (BitVec.ofInt k.bits x &&& BitVec.ofInt k.bits y).toNat
def ior (k : IntKind) (x y : Int) : Int := k.wrap (BitVec.ofInt k.bits x ||| BitVec.ofInt k.bits y).toNat
def ixor (k : IntKind) (x y : Int) : Int := k.wrap (BitVec.ofInt k.bits x ^^^ BitVec.ofInt k.bits y).toNat
def iandnot (k : IntKind) (x y : Int) : Int := k.wrap (BitVec.ofInt k.bits x &&& ~~~ BitVec.ofInt k.bits y).toNat
/-- Shifts: none where the amount is below 0. -/
def ishl (k : IntKind) (x y : Int) : Option Int := if y < 0 then none else some (k.wrap (x * 2 ^ (min y.toNat k.bits)))
def ishr (k : IntKind) (x y : Int) : Option Int := if y < 0 then none else some (x.fdiv (2 ^ (min y.toNat k.bits)))
/-- Division: none where the divisor is 0. -/
def iquo (k : IntKind) (x y : Int) : Option Int := if y = 0 then none else some (k.wrap (x.tdiv y))
def irem (x y : Int) : Option Int := if y = 0 then none else some (x.tmod y)

/-- Shifts and divisions by a constant. -/
def shrp (x : Int) (n : Nat) : Int := x.fdiv (2 ^ n)
def shlp (k : IntKind) (x : Int) (n : Nat) : Int := k.wrap (x * 2 ^ n)
def quop (k : IntKind) (x n : Int) : Int := k.wrap (x.tdiv n)
def remp (x n : Int) : Int := x.tmod n

def imin (x y : Int) : Int := if y < x then y else x
def imax (x y : Int) : Int := if y > x then y else x

/-- 'l[i]'. -/
def idx {α : Type} (l : List α) (i : Int) : Option α := if 0 ≤ i then l[i.toNat]? else none
/-- 'l[i] = x'. -/
def upd {α : Type} (l : List α) (i : Int) (x : α) : Option (List α) := if 0 ≤ i ∧ i < l.length then some (l.set i.toNat x) else none
/-- 'l[lo:hi]', within the length. -/
def sub {α : Type} (l : List α) (lo hi : Int) : Option (List α) := if 0 ≤ lo ∧ lo ≤ hi ∧ hi ≤ l.length then some ((l.take hi.toNat).drop lo.toNat) else none
/-- 'append(l, m...)', 'bytes' bytes an element: none where the room could lack. -/
def app {α : Type} (bytes : Nat) (l m : List α) : Option (List α) := if (l.length + m.length) * bytes ≤ 140737488355328 ∧ l.length + m.length ≤ 9223372036854775807 then some (l ++ m) else none
/-- 'make([]T, n)'. -/
def mk {α : Type} (bytes : Nat) (z : α) (n : Int) : Option (List α) := if 0 ≤ n ∧ n * bytes ≤ 140737488355328 ∧ n ≤ 9223372036854775807 then some (List.replicate n.toNat z) else none
/-- 'make([]T, n, c)'. -/
def mkc {α : Type} (bytes : Nat) (z : α) (n c : Int) : Option (List α) := if 0 ≤ n ∧ n ≤ c ∧ c * bytes ≤ 140737488355328 ∧ c ≤ 9223372036854775807 then some (List.replicate n.toNat z) else none
/-- 'copy(l, m)'. -/
def cpy {α : Type} (l m : List α) : List α := m.take l.length ++ l.drop m.length
/-- Of a list only how long it is. -/
def lens {α : Type} (l : List α) : List Unit := l.map fun _ => ()
/-- The length. -/
def len {α : Type} (l : List α) : Int := l.length
/-- 'string(l)', as numbers. -/
def str (l : List Int) : List Int := l.map fun n => ((UInt8.ofNat n.toNat).toNat : Int)

/-- 'm[k] = x', 'm[k]'. -/
def mput {α : Type} : List (Int × α) → Int → α → List (Int × α)
  | [], k, x => [(k, x)]
  | (j, y) :: m, k, x => if k == j then (k, x) :: m else (j, y) :: mput m k x
def mget {α : Type} : List (Int × α) → Int → Option α
  | [], _ => none
  | (j, y) :: m, k => if k == j then some y else mget m k
/-- 'm[k]', z where there is none. -/
def mval {α : Type} (z : α) (m : List (Int × α)) (k : Int) : α := (mget m k).getD z
/-- 'a[i]', of an array of n elements. -/
def idxn {α : Type} (n : Nat) (l : List α) (i : Int) : Option α := if i < n then idx l i else none
theorem idxn_lt {α : Type} {n : Nat} {l : List α} {i : Int} {x : α} (h : idxn n l i = some x) : i < n ∧ idx l i = some x := by
  unfold idxn at h
  split at h
  · rename_i h1; exact ⟨h1, h⟩
  · cases h
/-- A function, turned at one place. -/
def setN {α : Type} (f : Nat → α) (i : Nat) (x : α) : Nat → α := fun j => if j = i then x else f j
/-- A place in an array of n. -/
def tix (n : Nat) (i : Int) : Option Nat := if 0 ≤ i ∧ i < n then some i.toNat else none
end V
end Go.Proofs.YtladkmnfmpojiaaGreatDoor
namespace Go.Proofs.YtladkmnfmpojiaaGreatDoor
namespace V

/-! ### Frames -/
abbrev Env := List (Nat × Value)
def lk (t : Nat) : Env → Option Value
  | [] => none
  | (d, v) :: l => match Nat.beq t d with
    | true => some v
    | false => lk t l
def ev (l : Env) : Operand → Option Value
  | .tmp t => lk t l
  | .const v => some v
  | .global g => some (.pointer (some ⟨g, 0, none⟩))
  | .func f => some (.func (.func f) #[] #[])

structure Holds (N : Nat) (l : Env) (a : Act) : Prop where
  size : a.tmps.size = N
  defers : a.defers = []
  get : ∀ t v, lk t l = some v → a.tmps[t]? = some v

section
variable {N : Nat} {l : Env} {a : Act}
theorem Holds.ev (h : Holds N l a) {x : Operand} {v : Value} (hx : ev l x = some v) : a.eval x = v := by
  cases x with
  | tmp t =>
    have := h.get t v hx
    simp [Act.eval, Array.getD_eq_getD_getElem?, this]
  | const u => simpa [V.ev, Act.eval] using hx
  | global g => simpa [V.ev, Act.eval] using hx
  | func f => simpa [V.ev, Act.eval] using hx
theorem Holds.put (h : Holds N l a) {d : Nat} {v : Value} (hd : Nat.blt d N = true) : Holds N ((d, v) :: l) (a.put (some d) v) := by
  have hlt : d < N := by simpa [Nat.blt_eq] using hd
  refine ⟨by simp [Act.put, h.size], h.defers, fun t u hu => ?_⟩
  simp only [lk] at hu
  by_cases e : t = d
  · subst e
    simp only [Nat.beq_refl, Option.some.injEq] at hu
    subst hu
    simp [Act.put, h.size, hlt]
  · have hb : Nat.beq t d = false := by
      cases hc : Nat.beq t d with
      | false => rfl
      | true => exact absurd (Nat.eq_of_beq_eq_true hc) e
    rw [hb] at hu
    have := h.get t u hu
    simp only [Act.put]
    rw [Array.getElem?_setIfInBounds_ne (fun h => e h.symm)]
    exact this
theorem Holds.putN (h : Holds N l a) {v : Value} : Holds N l (a.put none v) := h
def Sub (l : Env) : Env → Prop
  | [] => True
  | (t, v) :: r => lk t l = some v ∧ Sub l r
theorem Sub.look {l l' : Env} (hs : Sub l l') : ∀ t v, lk t l' = some v → lk t l = some v := by
  induction l' with
  | nil => intro t v h; cases h
  | cons p r ih =>
    obtain ⟨d, u⟩ := p
    intro t v h
    simp only [lk] at h
    cases hb : Nat.beq t d with
    | true =>
      rw [hb] at h
      simp only [Option.some.injEq] at h
      subst h
      rw [Nat.eq_of_beq_eq_true hb]
      exact hs.1
    | false =>
      rw [hb] at h
      exact ih hs.2 t v h
theorem Holds.sub {l' : Env} (h : Holds N l a) (hs : Sub l l') : Holds N l' a :=
  ⟨h.size, h.defers, fun t v hv => h.get t v (hs.look t v hv)⟩
end

/-! ### Code, with three ways out -/
/-- What a panic carries that nothing has caught. -/
def pe (v : Value) : PanicEntry := { v := v, recovered := false, goexit := false }
/-- A list of operations: it goes on, or it panics. -/
def QN (px : Value → World → Prop) (Kn : Act → World → Prop) : Exit → Act → World → Prop := fun e a w => (e = .normal ∧ Kn a w) ∨ ∃ v, e = .panic [pe v] ∧ a.defers = [] ∧ px v w
def post3 (px : Value → World → Prop) (Kn : Act → World → Prop) (Ke : Nat → Act → World → Prop) (Kr : Act → World → Prop) : Exit → Act → World → Prop
  | .normal, a, w => Kn a w
  | .exit i, a, w => Ke i a w
  | .ret, a, w => Kr a w
  | .panic ch, a, w => ∃ v, ch = [pe v] ∧ a.defers = [] ∧ px v w
  | _, _, _ => False
def wp3 (P : Program) (px : Value → World → Prop) (c : Code) (Kn : Act → World → Prop) (Ke : Nat → Act → World → Prop) (Kr : Act → World → Prop) (a : Act) (w : World) : Prop :=
  c.wp P (post3 px Kn Ke Kr) a w
/-- Code from a frame that is known in part. -/
def WC (P : Program) (px : Value → World → Prop) (c : Code) (Kn : Act → World → Prop) (Ke : Nat → Act → World → Prop) (Kr : Act → World → Prop) (N : Nat) (l : Env) (w : World) : Prop :=
  ∀ a, Holds N l a → wp3 P px c Kn Ke Kr a w
/-- A list of operations, likewise. -/
def WL (P : Program) (px : Value → World → Prop) (ops : Array Oper) (rest : List Oper) (Kn : Act → World → Prop) (N : Nat) (l : Env) (w : World) : Prop :=
  ∀ a, Holds N l a → wpList P ops (QN px Kn) rest a w

section
variable {P : Program} {px : Value → World → Prop} {Kn : Act → World → Prop} {Ke : Nat → Act → World → Prop} {Kr : Act → World → Prop} {N : Nat} {l : Env} {w : World}
theorem WC.seq {x y : Code} (h : WC P px x (fun a w => wp3 P px y Kn Ke Kr a w) Ke Kr N l w) : WC P px (.seq x y) Kn Ke Kr N l w := fun a ha => by
  refine wp_seq (wp_mono (h a ha) fun e a w hq => ?_)
  cases e <;> exact hq
theorem WC.seqCut {x y : Code} (J : Act → World → Prop) (h : WC P px x J Ke Kr N l w) (h2 : ∀ a w, J a w → wp3 P px y Kn Ke Kr a w) : WC P px (.seq x y) Kn Ke Kr N l w := fun a ha => by
  refine wp_seq (wp_mono (h a ha) fun e a w hq => ?_)
  cases e
  case normal => exact h2 a w hq
  all_goals exact hq
theorem WC.skip (h : ∀ a, Holds N l a → Kn a w) : WC P px .skip Kn Ke Kr N l w := fun a ha => wp_skip (h a ha)
theorem WC.skipThen {y : Code} {Kn' : Act → World → Prop} {Ke' : Nat → Act → World → Prop} {Kr' : Act → World → Prop} (h : WC P px y Kn' Ke' Kr' N l w) : WC P px .skip (fun a w => wp3 P px y Kn' Ke' Kr' a w) Ke Kr N l w := fun a ha => wp_skip (h a ha)
theorem WC.exit {i : Nat} (h : ∀ a, Holds N l a → Ke i a w) : WC P px (.exit i) Kn Ke Kr N l w := fun a ha => wp_exit (h a ha)
theorem WC.ret (h : ∀ a, Holds N l a → Kr a w) : WC P px .ret Kn Ke Kr N l w := fun a ha => wp_ret (h a ha)
def inB (i : Nat) (Kn : Act → World → Prop) (Ke : Nat → Act → World → Prop) : Nat → Act → World → Prop := fun j => match Nat.beq j i with
  | true => Kn
  | false => Ke j
theorem WC.block {i : Nat} {c : Code} (h : WC P px c Kn (inB i Kn Ke) Kr N l w) : WC P px (.block i c) Kn Ke Kr N l w := fun a ha => by
  refine wp_block (wp_mono (h a ha) fun e a w hq => ?_)
  cases e
  case exit j =>
    simp only [Exit.inBlock, post3, inB] at hq ⊢
    by_cases e : j = i
    · subst e
      simpa using hq
    · have hb : Nat.beq j i = false := by
        cases hc : Nat.beq j i with
        | false => rfl
        | true => exact absurd (Nat.eq_of_beq_eq_true hc) e
      rw [hb] at hq
      simpa [e] using hq
  all_goals exact hq
theorem WC.cond {c : Operand} {x y : Code} {t : Bool} (hc : ev l c = some (.bool t)) (ht : t = true → WC P px x Kn Ke Kr N l w) (hf : t = false → WC P px y Kn Ke Kr N l w) :
    WC P px (.cond c x y) Kn Ke Kr N l w := fun a ha =>
  wp_cond_split (ha.ev hc) (fun e => ht e a ha) (fun e => hf e a ha)
theorem leastOf {G : Nat → Prop} (h : ∃ n, G n) : ∃ n, G n ∧ ∀ m, G m → n ≤ m := by
  obtain ⟨n, hn⟩ := h
  induction n using Nat.strongRecOn with
  | _ n ih =>
    by_cases hm : ∃ m, m < n ∧ G m
    · obtain ⟨m, hlt, hm⟩ := hm
      exact ih m hlt hm
    · exact ⟨n, hn, fun m hG => by
        rcases Nat.lt_or_ge m n with hlt | hge
        · exact absurd ⟨m, hlt, hG⟩ hm
        · exact hge⟩
theorem WC.loop {c : Code} (G : Nat → Act → World → Prop) (n0 : Nat) (h0 : ∀ a, Holds N l a → G n0 a w)
    (round : ∀ n a w, G n a w → wp3 P px c (fun a w => ∃ m, m < n ∧ G m a w) Ke Kr a w) : WC P px (.loop c) Kn Ke Kr N l w := fun a ha => by
  classical
  let μ : Act → World → Nat := fun a w => if h : ∃ n, G n a w then Classical.choose (leastOf h) else 0
  have hμ : ∀ a w, (∃ n, G n a w) → G (μ a w) a w ∧ ∀ m, G m a w → μ a w ≤ m := fun a w h => by
    simp only [μ]
    rw [dif_pos h]
    exact Classical.choose_spec (leastOf h)
  refine wp_loop (fun a w => ∃ n, G n a w) μ ⟨n0, h0 a ha⟩ fun a w hI => ?_
  refine wp_mono (round _ a w (hμ a w hI).1) fun e a' w' hq => ?_
  cases e
  case normal =>
    obtain ⟨m, hm, hG⟩ := hq
    exact ⟨⟨m, hG⟩, Nat.lt_of_le_of_lt ((hμ a' w' ⟨m, hG⟩).2 m hG) hm⟩
  all_goals exact hq
theorem WC.ofJ {c : Code} {a : Act} (h : WC P px c Kn Ke Kr N l w) (ha : Holds N l a) : wp3 P px c Kn Ke Kr a w := h a ha
theorem WC.region {id : Nat} {os : List Oper} (h : WL P px os.toArray os Kn N l w) : WC P px (.region id os.toArray false) Kn Ke Kr N l w := fun a ha => by
  refine wp_mono (wp_region_lit (h a ha)) fun e a w hq => ?_
  rcases hq with ⟨rfl, hq⟩ | ⟨v, rfl, hq⟩
  · exact hq
  · exact ⟨v, rfl, hq⟩
end

/-! ### One operation -/
/-- In every frame that is known so, the operation yields v and leaves the world alone. -/
def RunV (P : Program) (N : Nat) (l : Env) (o : Oper) (w : World) (v : Value) : Prop :=
  ∀ a, Holds N l a → (execOp a.eval o).run P w = .ok (.value v) w
/-- The operation yields a value and a world of which 'K' is known. -/
def RunW (P : Program) (N : Nat) (l : Env) (o : Oper) (w : World) (K : Value → World → Prop) : Prop :=
  ∀ a, Holds N l a → ∃ v w', (execOp a.eval o).run P w = .ok (.value v) w' ∧ K v w'
/-- A store. -/
def RunS (P : Program) (N : Nat) (l : Env) (o : Oper) (w : World) (w' : World) : Prop :=
  ∀ a, Holds N l a → (execOp a.eval o).run P w = .ok .skip w'

section
variable {P : Program} {px : Value → World → Prop} {ops : Array Oper} {rest : List Oper} {Kn : Act → World → Prop} {N : Nat} {l : Env} {w : World}
theorem WL.nil (h : ∀ a, Holds N l a → Kn a w) : WL P px ops [] Kn N l w := fun a ha => wpList_nil (.inl ⟨rfl, h a ha⟩)
theorem WL.nilThen {y : Code} {Kn' : Act → World → Prop} {Ke : Nat → Act → World → Prop} {Kr : Act → World → Prop} (h : WC P px y Kn' Ke Kr N l w) :
    WL P px ops [] (fun a w => wp3 P px y Kn' Ke Kr a w) N l w := fun a ha => wpList_nil (.inl ⟨rfl, h a ha⟩)
theorem WL.val {d : Nat} {op : Op} {t : TypeId} {ps : String} {af : Array Edge} {v : Value} (hr : RunV P N l ⟨some d, op, t, ps, af, none⟩ w v) (hd : Nat.blt d N = true)
    (h : WL P px ops rest Kn N ((d, v) :: l) w) : WL P px ops (⟨some d, op, t, ps, af, none⟩ :: rest) Kn N l w := fun a ha =>
  wpList_plain rfl fun K hK => by
    unfold Oper.wp
    rw [hr a ha]
    exact hK _ _ (h _ (ha.put hd))
theorem WL.val0 {op : Op} {t : TypeId} {ps : String} {af : Array Edge} {v : Value} (hr : RunV P N l ⟨none, op, t, ps, af, none⟩ w v)
    (h : WL P px ops rest Kn N l w) : WL P px ops (⟨none, op, t, ps, af, none⟩ :: rest) Kn N l w := fun a ha =>
  wpList_plain rfl fun K hK => by
    unfold Oper.wp
    rw [hr a ha]
    exact hK _ _ (h _ ha)
theorem WL.world {d : Nat} {op : Op} {t : TypeId} {ps : String} {af : Array Edge} {K : Value → World → Prop} (hr : RunW P N l ⟨some d, op, t, ps, af, none⟩ w K) (hd : Nat.blt d N = true)
    (h : ∀ v w', K v w' → WL P px ops rest Kn N ((d, v) :: l) w') : WL P px ops (⟨some d, op, t, ps, af, none⟩ :: rest) Kn N l w := fun a ha =>
  wpList_plain rfl fun K' hK => by
    obtain ⟨v, w', h1, h2⟩ := hr a ha
    unfold Oper.wp
    rw [h1]
    exact hK _ _ (h v w' h2 _ (ha.put hd))
theorem WL.store {op : Op} {t : TypeId} {ps : String} {af : Array Edge} {w' : World} (hr : RunS P N l ⟨none, op, t, ps, af, none⟩ w w')
    (h : WL P px ops rest Kn N l w') : WL P px ops (⟨none, op, t, ps, af, none⟩ :: rest) Kn N l w := fun a ha =>
  wpList_plain rfl fun K' hK => by
    unfold Oper.wp
    rw [hr a ha]
    exact hK _ _ (h _ ha)
/-- A call of a function with a body. -/
def RunC (P : Program) (N : Nat) (l : Env) (o : Oper) (w : World) (f : FuncId) (args : Array Value) : Prop :=
  ∀ a, Holds N l a → (execOp a.eval o).run P w = .ok (.enter f args) w
theorem WL.call {d : Nat} {op : Op} {t : TypeId} {ps : String} {af : Array Edge} {f : FuncId} {args : Array Value} {K : Value → World → Prop} (hr : RunC P N l ⟨some d, op, t, ps, af, none⟩ w f args)
    (hc : Calls P f args w fun e w' => ∃ v, e = .returned v ∧ K v w') (hd : Nat.blt d N = true)
    (h : ∀ v w', K v w' → WL P px ops rest Kn N ((d, v) :: l) w') : WL P px ops (⟨some d, op, t, ps, af, none⟩ :: rest) Kn N l w := fun a ha =>
  wpList_plain rfl fun K' hK => by
    unfold Oper.wp
    rw [hr a ha]
    refine Calls.mono hc fun e w' hq => ?_
    obtain ⟨v, rfl, hv⟩ := hq
    exact hK _ _ (h v w' hv _ (ha.put hd))
theorem WL.call0 {op : Op} {t : TypeId} {ps : String} {af : Array Edge} {f : FuncId} {args : Array Value} {K : Value → World → Prop} (hr : RunC P N l ⟨none, op, t, ps, af, none⟩ w f args)
    (hc : Calls P f args w fun e w' => ∃ v, e = .returned v ∧ K v w')
    (h : ∀ v w', K v w' → WL P px ops rest Kn N l w') : WL P px ops (⟨none, op, t, ps, af, none⟩ :: rest) Kn N l w := fun a ha =>
  wpList_plain rfl fun K' hK => by
    unfold Oper.wp
    rw [hr a ha]
    refine Calls.mono hc fun e w' hq => ?_
    obtain ⟨v, rfl, hv⟩ := hq
    exact hK _ _ (h v w' hv _ ha)
/-- A guarded operation that is carried out; one that is passed over. -/
theorem WL.yes {d : Option Nat} {op : Op} {t : TypeId} {ps : String} {af : Array Edge} {j : Nat} {b x : Bool} {s : Nat} (hj : (ops[j]?).bind (·.dst) = some s) (hs : lk s l = some (.bool x)) (hx : x = b)
    (h : WL P px ops (⟨d, op, t, ps, af, none⟩ :: rest) Kn N l w) : WL P px ops (⟨d, op, t, ps, af, some (j, b)⟩ :: rest) Kn N l w := fun a ha => by
  have h1 := h a ha
  have hy : yielded ops a.tmps j = some x := by
    unfold yielded
    rw [hj]
    simp [ha.get s _ hs]
  unfold wpList at h1 ⊢
  simp only [Region.wanted, hy, hx, BEq.rfl, if_true] at h1 ⊢
  exact h1
theorem WL.no {d : Nat} {op : Op} {t : TypeId} {ps : String} {af : Array Edge} {j : Nat} {b x : Bool} {s : Nat} (hj : (ops[j]?).bind (·.dst) = some s) (hs : lk s l = some (.bool x)) (hx : x = !b) (hd : Nat.blt d N = true)
    (h : WL P px ops rest Kn N ((d, undef) :: l) w) : WL P px ops (⟨some d, op, t, ps, af, some (j, b)⟩ :: rest) Kn N l w := fun a ha => by
  have hy : yielded ops a.tmps j = some x := by
    unfold yielded
    rw [hj]
    simp [ha.get s _ hs]
  unfold wpList
  have hw : Region.wanted ⟨some d, op, t, ps, af, some (j, b)⟩ (yielded ops a.tmps) = false := by
    simp only [Region.wanted, hy, hx]
    cases b <;> rfl
  rw [if_neg (by simp [hw])]
  exact h _ (ha.put hd)
theorem WL.no0 {op : Op} {t : TypeId} {ps : String} {af : Array Edge} {j : Nat} {b x : Bool} {s : Nat} (hj : (ops[j]?).bind (·.dst) = some s) (hs : lk s l = some (.bool x)) (hx : x = !b)
    (h : WL P px ops rest Kn N l w) : WL P px ops (⟨none, op, t, ps, af, some (j, b)⟩ :: rest) Kn N l w := fun a ha => by
  have hy : yielded ops a.tmps j = some x := by
    unfold yielded
    rw [hj]
    simp [ha.get s _ hs]
  unfold wpList
  have hw : Region.wanted ⟨none, op, t, ps, af, some (j, b)⟩ (yielded ops a.tmps) = false := by
    simp only [Region.wanted, hy, hx]
    cases b <;> rfl
  rw [if_neg (by simp [hw])]
  exact h _ ha
/-- A cut inside a list of operations. -/
theorem wpList_cut {Q : Exit → Act → World → Prop} {J : Act → World → Prop} (hP : ∀ v (a : Act) w, a.defers = [] ∧ px v w → Q (.panic [pe v]) a w) (r2 : List Oper) (h2 : ∀ a w, J a w → wpList P ops Q r2 a w) :
    ∀ (r1 : List Oper) (a : Act) (w : World), wpList P ops (QN px J) r1 a w → wpList P ops Q (r1 ++ r2) a w
  | [], a, w, h => by
    rcases h with ⟨_, h⟩ | ⟨_, h, _⟩
    · exact h2 a w h
    · cases h
  | o :: r1, a, w, h => by
    have ih := wpList_cut hP r2 h2 r1
    simp only [List.cons_append]
    unfold wpList at h ⊢
    split at h
    · rename_i hw
      rw [if_pos hw]
      rcases h with h | ⟨_, a', w', h⟩
      · refine .inl ?_
        unfold Oper.wp at *
        generalize (execOp a.eval o).run P w = r at *
        have hq : ∀ (e : Exit) a w, e ≠ .normal → QN px J e a w → Q e a w := fun e a w hne hq => by
          rcases hq with ⟨h, _⟩ | ⟨v, rfl, h⟩
          · exact absurd h hne
          · exact hP v a w h
        cases r with
        | ok n w' =>
          cases n <;> simp only [Oper.upon] at h ⊢ <;>
            first
              | exact ih _ _ h
              | (refine Calls.mono h fun e w'' he => ?_
                 cases e with
                 | returned v => exact ih _ _ he
                 | panicked c => exact hq _ _ _ (by simp) he
                 | outgrown =>
                   obtain ⟨_, _, h0⟩ := he
                   rcases h0 with ⟨h0, _⟩ | ⟨_, h0, _⟩ <;> cases h0)
              | exact Rows.mono h fun _ _ he => ih _ _ he
        | halt x w' => cases x <;> simp only [Oper.upon] at h ⊢ <;> exact hq _ _ _ (by simp) h
      · rcases h with ⟨h, _⟩ | ⟨_, h, _⟩ <;> cases h
    · rename_i hw
      rw [if_neg hw]
      exact ih _ _ h
theorem WL.cut {r1 r2 : List Oper} (J : Act → World → Prop) (h1 : WL P px ops r1 J N l w) (h2 : ∀ a w, J a w → wpList P ops (QN px Kn) r2 a w) :
    WL P px ops (r1 ++ r2) Kn N l w := fun a ha =>
  wpList_cut (Q := QN px Kn) (fun v _ _ h => .inr ⟨v, rfl, h⟩) r2 h2 r1 a w (h1 a ha)
theorem WL.ofJ {a : Act} (h : WL P px ops rest Kn N l w) (ha : Holds N l a) : wpList P ops (QN px Kn) rest a w := h a ha
end
end V
end Go.Proofs.YtladkmnfmpojiaaGreatDoor
namespace Go.Proofs.YtladkmnfmpojiaaGreatDoor
namespace V

section
variable {P : Program} {px : Value → World → Prop} {N : Nat} {l : Env} {w : World} {d : Option Nat} {t : TypeId} {ps : String} {af : Array Edge} {g : Option (Nat × Bool)}

theorem rv_move {x : Operand} {v : Value} (hx : ev l x = some v) : RunV P N l ⟨d, .move x, t, ps, af, g⟩ w v := fun a ha => by
  simp only [execOp, ha.ev hx]; rfl
theorem rv_assign {x : Operand} {v : Value} (hx : ev l x = some v) : RunV P N l ⟨d, .assign x, t, ps, af, g⟩ w v := fun a ha => by
  simp only [execOp, ha.ev hx]; rfl
theorem rv_pick_t {c x y : Operand} {b : Bool} {v : Value} (hc : ev l c = some (.bool b)) (hb : b = true) (hx : ev l x = some v) : RunV P N l ⟨d, .pick c x y, t, ps, af, g⟩ w v := fun a ha => by
  subst hb
  simp only [execOp, ha.ev hx, ha.ev hc, asBool]; rfl
theorem rv_pick_f {c x y : Operand} {b : Bool} {v : Value} (hc : ev l c = some (.bool b)) (hb : b = false) (hy : ev l y = some v) : RunV P N l ⟨d, .pick c x y, t, ps, af, g⟩ w v := fun a ha => by
  subst hb
  simp only [execOp, ha.ev hy, ha.ev hc, asBool]; rfl

theorem run_eqGuard_int (op : BinOp) (ty : TypeId) (x y : Operand) (k k' : IntKind) (m n : Int) : (eqGuard op ty x y (.int k m) (.int k' n)).run P w = .ok () w := by
  cases op <;> rfl
theorem run_eqGuard_bool (op : BinOp) (ty : TypeId) (x y : Operand) (m n : Bool) : (eqGuard op ty x y (.bool m) (.bool n)).run P w = .ok () w := by
  cases op <;> rfl
theorem run_eqGuard_string (op : BinOp) (ty : TypeId) (x y : Operand) (m n : ByteArray) : (eqGuard op ty x y (.string m) (.string n)).run P w = .ok () w := by
  cases op <;> rfl

theorem rv_int {op : BinOp} {ty ty2 : TypeId} {x y : Operand} {k : IntKind} {m n : Int} {v : Value} (hx : ev l x = some (.int k m)) (hy : ev l y = some (.int k n))
    (h : (binOp op ty (.int k m) (.int k n)).run P w = .ok v w) : RunV P N l ⟨d, .binOp op ty x y ty2, t, ps, af, g⟩ w v := fun a ha => by
  simp only [execOp, ha.ev hx, ha.ev hy, Sem.run_bind, run_eqGuard_int, Result.andThen_ok, h]; rfl
section
variable {ty ty2 : TypeId} {x y : Operand} {k : IntKind} {m n e : Int}
theorem rv_add (hx : ev l x = some (.int k m)) (hy : ev l y = some (.int k n)) (he : k.wrap (m + n) = e) : RunV P N l ⟨d, .binOp .add ty x y ty2, t, ps, af, g⟩ w (.int k e) :=
  rv_int hx hy (by subst he; simp [binOp, Op.intArith])
theorem rv_sub (hx : ev l x = some (.int k m)) (hy : ev l y = some (.int k n)) (he : k.wrap (m - n) = e) : RunV P N l ⟨d, .binOp .sub ty x y ty2, t, ps, af, g⟩ w (.int k e) :=
  rv_int hx hy (by subst he; simp [binOp, Op.intArith])
theorem rv_mul (hx : ev l x = some (.int k m)) (hy : ev l y = some (.int k n)) (he : k.wrap (m * n) = e) : RunV P N l ⟨d, .binOp .mul ty x y ty2, t, ps, af, g⟩ w (.int k e) :=
  rv_int hx hy (by subst he; simp [binOp, Op.intArith])
theorem rv_and (hx : ev l x = some (.int k m)) (hy : ev l y = some (.int k n)) : RunV P N l ⟨d, .binOp .and ty x y ty2, t, ps, af, g⟩ w (.int k (iand k m n)) :=
  rv_int hx hy (by simp [binOp, Op.intBits, iand])
theorem rv_or (hx : ev l x = some (.int k m)) (hy : ev l y = some (.int k n)) : RunV P N l ⟨d, .binOp .or ty x y ty2, t, ps, af, g⟩ w (.int k (ior k m n)) :=
  rv_int hx hy (by simp [binOp, Op.intBits, ior])
theorem rv_xor (hx : ev l x = some (.int k m)) (hy : ev l y = some (.int k n)) : RunV P N l ⟨d, .binOp .xor ty x y ty2, t, ps, af, g⟩ w (.int k (ixor k m n)) :=
  rv_int hx hy (by simp [binOp, Op.intBits, ixor])
theorem rv_andNot (hx : ev l x = some (.int k m)) (hy : ev l y = some (.int k n)) : RunV P N l ⟨d, .binOp .andNot ty x y ty2, t, ps, af, g⟩ w (.int k (iandnot k m n)) :=
  rv_int hx hy (by simp [binOp, Op.intBits, iandnot])
theorem rv_eql (hx : ev l x = some (.int k m)) (hy : ev l y = some (.int k n)) : RunV P N l ⟨d, .binOp .eql ty x y ty2, t, ps, af, g⟩ w (.bool (m == n)) :=
  rv_int hx hy (by simp [binOp, Op.intCmp])
theorem rv_neq (hx : ev l x = some (.int k m)) (hy : ev l y = some (.int k n)) : RunV P N l ⟨d, .binOp .neq ty x y ty2, t, ps, af, g⟩ w (.bool (m != n)) :=
  rv_int hx hy (by simp [binOp, Op.intCmp])
theorem rv_lss (hx : ev l x = some (.int k m)) (hy : ev l y = some (.int k n)) : RunV P N l ⟨d, .binOp .lss ty x y ty2, t, ps, af, g⟩ w (.bool (decide (m < n))) :=
  rv_int hx hy (by simp [binOp, Op.intCmp])
theorem rv_leq (hx : ev l x = some (.int k m)) (hy : ev l y = some (.int k n)) : RunV P N l ⟨d, .binOp .leq ty x y ty2, t, ps, af, g⟩ w (.bool (decide (m ≤ n))) :=
  rv_int hx hy (by simp [binOp, Op.intCmp])
theorem rv_gtr (hx : ev l x = some (.int k m)) (hy : ev l y = some (.int k n)) : RunV P N l ⟨d, .binOp .gtr ty x y ty2, t, ps, af, g⟩ w (.bool (decide (m > n))) :=
  rv_int hx hy (by simp [binOp, Op.intCmp])
theorem rv_geq (hx : ev l x = some (.int k m)) (hy : ev l y = some (.int k n)) : RunV P N l ⟨d, .binOp .geq ty x y ty2, t, ps, af, g⟩ w (.bool (decide (m ≥ n))) :=
  rv_int hx hy (by simp [binOp, Op.intCmp])
theorem rv_quo (hx : ev l x = some (.int k m)) (hy : ev l y = some (.int k n)) (he : iquo k m n = some e) : RunV P N l ⟨d, .binOp .quo ty x y ty2, t, ps, af, g⟩ w (.int k e) :=
  rv_int hx hy (by
    unfold iquo at he
    split at he
    · cases he
    · rename_i h0
      simp only [Option.some.injEq] at he
      subst he
      simp [binOp, Op.intDiv, h0])
theorem rv_rem (hx : ev l x = some (.int k m)) (hy : ev l y = some (.int k n)) (he : irem m n = some e) : RunV P N l ⟨d, .binOp .rem ty x y ty2, t, ps, af, g⟩ w (.int k e) :=
  rv_int hx hy (by
    unfold irem at he
    split at he
    · cases he
    · rename_i h0
      simp only [Option.some.injEq] at he
      subst he
      simp [binOp, Op.intDiv, h0])
theorem rv_shift {op : BinOp} {k2 : IntKind} {v : Value} (hx : ev l x = some (.int k m)) (hy : ev l y = some (.int k2 n)) (h : (binOp op ty (.int k m) (.int k2 n)).run P w = .ok v w) :
    RunV P N l ⟨d, .binOp op ty x y ty2, t, ps, af, g⟩ w v := fun a ha => by
  simp only [execOp, ha.ev hx, ha.ev hy, Sem.run_bind, run_eqGuard_int, Result.andThen_ok, h]; rfl
theorem rv_shl {k2 : IntKind} (hx : ev l x = some (.int k m)) (hy : ev l y = some (.int k2 n)) (he : ishl k m n = some e) : RunV P N l ⟨d, .binOp .shl ty x y ty2, t, ps, af, g⟩ w (.int k e) :=
  rv_shift hx hy (by
    unfold ishl at he
    split at he
    · cases he
    · rename_i h0
      simp only [Option.some.injEq] at he
      subst he
      simp [binOp, Op.shift, h0])
theorem rv_shr {k2 : IntKind} (hx : ev l x = some (.int k m)) (hy : ev l y = some (.int k2 n)) (he : ishr k m n = some e) : RunV P N l ⟨d, .binOp .shr ty x y ty2, t, ps, af, g⟩ w (.int k e) :=
  rv_shift hx hy (by
    unfold ishr at he
    split at he
    · cases he
    · rename_i h0
      simp only [Option.some.injEq] at he
      subst he
      simp [binOp, Op.shift, h0])
theorem rv_not {b : Bool} (hx : ev l x = some (.bool b)) : RunV P N l ⟨d, .unOp .not ty x, t, ps, af, g⟩ w (.bool (!b)) := fun a ha => by
  simp only [execOp, ha.ev hx, Op.unary]; rfl
theorem rv_neg (hx : ev l x = some (.int k m)) (he : k.wrap (0 - m) = e) : RunV P N l ⟨d, .unOp .neg ty x, t, ps, af, g⟩ w (.int k e) := fun a ha => by
  subst he
  simp only [execOp, ha.ev hx, Op.unary, Op.intArith]; rfl
end
theorem run_equalIn_bool {ty : TypeId} (hu : P.underlying ty = some .bool) (dp : Nat) (m n : Bool) : (Op.equalIn (dp + 1) ty (.bool m) (.bool n)).run P w = .ok (m == n) w := by
  simp only [Op.equalIn, Sem.run_bind, run_underlying hu, Result.andThen_ok, Sem.run_pure]
theorem rv_eqlb {ty ty2 : TypeId} {x y : Operand} {m n : Bool} (hu : P.underlying ty = some .bool) (hx : ev l x = some (.bool m)) (hy : ev l y = some (.bool n)) : RunV P N l ⟨d, .binOp .eql ty x y ty2, t, ps, af, g⟩ w (.bool (m == n)) := fun a ha => by
  have h := run_equalIn_bool (P := P) (w := w) hu 9999 m n
  simp only [execOp, ha.ev hx, ha.ev hy, Sem.run_bind, run_eqGuard_bool, Result.andThen_ok, binOp, Op.equal, Op.maxDepth, h, Sem.run_pure]
theorem rv_neqb {ty ty2 : TypeId} {x y : Operand} {m n : Bool} (hu : P.underlying ty = some .bool) (hx : ev l x = some (.bool m)) (hy : ev l y = some (.bool n)) : RunV P N l ⟨d, .binOp .neq ty x y ty2, t, ps, af, g⟩ w (.bool (m != n)) := fun a ha => by
  have h := run_equalIn_bool (P := P) (w := w) hu 9999 m n
  simp only [execOp, ha.ev hx, ha.ev hy, Sem.run_bind, run_eqGuard_bool, Result.andThen_ok, binOp, Op.equal, Op.maxDepth, h, Sem.run_pure]
  rfl
/-- A string's bytes, as numbers. -/
def strOf (s : ByteArray) : List Int := s.toList.map fun b => (b.toNat : Int)
theorem strOf_beq (s u : ByteArray) : (s.toList == u.toList) = (strOf s == strOf u) := by
  have inj : ∀ a b : List UInt8, (a.map fun b => (b.toNat : Int)) = (b.map fun b => (b.toNat : Int)) → a = b := by
    intro a
    induction a with
    | nil => intro b h; cases b <;> simp_all
    | cons x xs ih =>
      intro b h
      cases b with
      | nil => simp at h
      | cons y ys =>
        simp only [List.map_cons, List.cons.injEq] at h
        rw [ih ys h.2, UInt8.toNat_inj.1 (by omega : x.toNat = y.toNat)]
  rw [Bool.eq_iff_iff]
  simp only [beq_iff_eq, strOf]
  exact ⟨fun h => by rw [h], fun h => inj _ _ h⟩
theorem rv_eqls {ty ty2 : TypeId} {x y : Operand} {s u : ByteArray} (hx : ev l x = some (.string s)) (hy : ev l y = some (.string u)) : RunV P N l ⟨d, .binOp .eql ty x y ty2, t, ps, af, g⟩ w (.bool (strOf s == strOf u)) := fun a ha => by
  simp only [execOp, ha.ev hx, ha.ev hy, Sem.run_bind, run_eqGuard_string, Result.andThen_ok, binOp, Op.stringOp, Sem.run_pure, strOf_beq]
theorem rv_neqs {ty ty2 : TypeId} {x y : Operand} {s u : ByteArray} (hx : ev l x = some (.string s)) (hy : ev l y = some (.string u)) : RunV P N l ⟨d, .binOp .neq ty x y ty2, t, ps, af, g⟩ w (.bool (strOf s != strOf u)) := fun a ha => by
  simp only [execOp, ha.ev hx, ha.ev hy, Sem.run_bind, run_eqGuard_string, Result.andThen_ok, binOp, Op.stringOp, Sem.run_pure, strOf_beq]; rfl
theorem rv_conv {src dst : TypeId} {x : Operand} {k k' : IntKind} {sd : TypeDesc} {m e : Int} (hs : P.underlying src = some sd) (hu : P.underlying dst = some (.int k')) (hx : ev l x = some (.int k m)) (he : k'.wrap m = e) :
    RunV P N l ⟨d, .convert src dst x, t, ps, af, g⟩ w (.int k' e) := fun a ha => by
  subst he
  simp only [execOp, ha.ev hx, convert, Sem.run_bind, run_underlying hs, run_underlying hu, Result.andThen_ok, Conv.intToInt, Sem.run_pure]
theorem rv_len {α : Type} {ty e : TypeId} {x : Operand} {A : Option Addr} {c : Nat} {dt : List α} (hu : P.underlying ty = some (.slice e)) (hx : ev l x = some (.slice A dt.length c)) :
    RunV P N l ⟨d, .call { callee := .builtin .len, args := #[x], argTypes := #[ty] }, t, ps, af, g⟩ w (.int .i64 (V.len dt)) := fun a ha => by
  simp [execOp, resolve, invoke, builtin, ha.ev hx, Builtin.len_, run_underlying hu, goInt, V.len]
theorem rv_lens {ty : TypeId} {x : Operand} {s : ByteArray} (hu : P.underlying ty = some .string) (hx : ev l x = some (.string s)) :
    RunV P N l ⟨d, .call { callee := .builtin .len, args := #[x], argTypes := #[ty] }, t, ps, af, g⟩ w (.int .i64 (V.len (strOf s))) := fun a ha => by
  have hl : s.toList.length = s.size := by rw [Go.ByteArray.toList_eq]; exact Array.length_toList
  simp [execOp, resolve, invoke, builtin, ha.ev hx, Builtin.len_, run_underlying hu, goInt, strOf, V.len, hl]
theorem rv_min {ats : Array TypeId} {x y : Operand} {k : IntKind} {m n : Int} (hx : ev l x = some (.int k m)) (hy : ev l y = some (.int k n)) :
    RunV P N l ⟨d, .call { callee := .builtin .min, args := #[x, y], argTypes := ats }, t, ps, af, g⟩ w (.int k (imin m n)) := fun a ha => by
  simp [execOp, resolve, invoke, builtin, ha.ev hx, ha.ev hy, Builtin.min_, Builtin.min2, imin]
theorem rv_max {ats : Array TypeId} {x y : Operand} {k : IntKind} {m n : Int} (hx : ev l x = some (.int k m)) (hy : ev l y = some (.int k n)) :
    RunV P N l ⟨d, .call { callee := .builtin .max, args := #[x, y], argTypes := ats }, t, ps, af, g⟩ w (.int k (imax m n)) := fun a ha => by
  simp [execOp, resolve, invoke, builtin, ha.ev hx, ha.ev hy, Builtin.max_, Builtin.max2, imax]
theorem rv_extract {x : Operand} {vs : Array Value} {i : Nat} {v : Value} (hx : ev l x = some (.tuple vs)) (hv : vs[i]? = some v) : RunV P N l ⟨d, .extract x i, t, ps, af, g⟩ w v := fun a ha => by
  simp [execOp, ha.ev hx, Instr.extract, hv]
theorem rv_nilCheck {x : Operand} {ad : Addr} (hx : ev l x = some (.pointer (some ad))) : RunV P N l ⟨d, .nilCheck x, t, ps, af, g⟩ w (.pointer (some ad)) := fun a ha => by
  simp [execOp, ha.ev hx]
/-- What a field's address is. -/
def FieldAt (P : Program) (s : TypeId) (f off : Nat) : Prop := ∀ (w : World) (a : Addr), (Instr.fieldAt s (.pointer (some a)) f).run P w = .ok (.pointer (some (a.add off))) w
theorem fieldAt_of {s : TypeId} {f off : Nat} {fs : Array Field} {fd : Field} {i : TypeInfo} (hu : P.underlying s = some (.struct fs)) (hf : fs[f]? = some fd) (hi : P.info? fd.type = some i) (hs : i.size ≠ 0) (ho : fd.offset = off) : FieldAt P s f off := fun w a => by
  subst ho
  simp [Instr.fieldAt, run_underlying hu, hf, Instr.sureAddr, fieldPlace, sizeOf, typeInfo, hi, hs]
theorem rv_fieldAddr {s : TypeId} {x : Operand} {f off : Nat} {ad ad' : Addr} (hf : FieldAt P s f off) (hx : ev l x = some (.pointer (some ad))) (he : ad.add off = ad') : RunV P N l ⟨d, .fieldAddr s x f, t, ps, af, g⟩ w (.pointer (some ad')) := fun a ha => by
  subst he
  simp only [execOp, ha.ev hx, Sem.run_bind, hf w ad, Result.andThen_ok]; rfl
/-- A field of a struct that is a value. -/
theorem rv_field1 {s : TypeId} {x : Operand} {f : Nat} {fs : Array Field} {fd : Field} {cs : List Value} {v : Value} (hu : P.underlying s = some (.struct fs)) (hf : fs[f]? = some fd) (ha1 : ∀ w, (isAgg fd.type).run P w = .ok false w)
    (hx : ev l x = some (.agg cs.toArray)) (hv : cs[fd.offset]? = some v) : RunV P N l ⟨d, .field s x f, t, ps, af, g⟩ w v := fun a ha => by
  simp [execOp, ha.ev hx, Instr.field, run_underlying hu, hf, asAgg, part, ha1, hv]
theorem rv_fieldN {s : TypeId} {x : Operand} {f n : Nat} {fs : Array Field} {fd : Field} {cs vs : List Value} (hu : P.underlying s = some (.struct fs)) (hf : fs[f]? = some fd) (ha1 : ∀ w, (isAgg fd.type).run P w = .ok true w) (hn : ∀ w, (sizeOf fd.type).run P w = .ok n w)
    (hx : ev l x = some (.agg cs.toArray)) (hv : (cs.drop fd.offset).take n = vs) : RunV P N l ⟨d, .field s x f, t, ps, af, g⟩ w (.agg vs.toArray) := fun a ha => by
  subst hv
  simp [execOp, ha.ev hx, Instr.field, run_underlying hu, hf, asAgg, part, ha1, hn, List.extract_toArray, List.extract_eq_take_drop]
/-- An element of an array that is a value. -/
theorem rv_index1 {s e : TypeId} {x i : Operand} {n : Nat} {k : IntKind} {iv : Int} {cs : List Value} {v : Value} (hu : P.underlying s = some (.array n e)) (ha1 : ∀ w, (isAgg e).run P w = .ok false w) (hs : ∀ w, (sizeOf e).run P w = .ok 1 w)
    (hx : ev l x = some (.agg cs.toArray)) (hi : ev l i = some (.int k iv)) (hn : cs.length = n) (hv : idx cs iv = some v) : RunV P N l ⟨d, .index s x i, t, ps, af, g⟩ w v := fun a ha => by
  unfold idx at hv
  split at hv
  · rename_i h0
    have hlt : iv.toNat < n := by
      obtain ⟨h, _⟩ := List.getElem?_eq_some_iff.1 hv
      omega
    have h2 : iv < (n : Int) := by omega
    simp [execOp, ha.ev hx, ha.ev hi, Instr.index, run_underlying hu, asIntOf, h0, h2, part, ha1, hs, hv]
  · cases hv
/-- The fields' places. -/
def PlOf (P : Program) (fs : List Field) : Option (List (Nat × Nat)) := fs.mapM fun f => (P.info? f.type).map fun i => (f.offset, i.size)
theorem run_places (fs : List Field) : ∀ pl, PlOf P fs = some pl → (fs.mapM (m := Sem) fun f => do pure (f.offset, ← sizeOf f.type)).run P w = .ok pl w := by
  induction fs with
  | nil => intro pl h; simp [PlOf] at h; subst h; rfl
  | cons f fs ih =>
    intro pl h
    simp only [PlOf, List.mapM_cons] at h
    cases hi : P.info? f.type with
    | none => simp [hi] at h
    | some i =>
      cases hr : List.mapM (fun f => (P.info? f.type).map fun i => (f.offset, i.size)) fs with
      | none => simp [hi, hr] at h
      | some r =>
        simp [hi, hr] at h
        subst h
        have := ih r hr
        simp [List.mapM_cons, sizeOf, typeInfo, hi] at this ⊢
        simp [this]
theorem rv_build {s : TypeId} {fs : List Field} {z : Value} {pl : List (Nat × Nat)} {parts : List (Nat × Operand)} {vs : List (Nat × Value)} {cs : List Value} (hz : ∀ w, (zeroValue s).run P w = .ok z w) (hu : P.underlying s = some (.struct fs.toArray)) (hpl : PlOf P fs = some pl)
    (hv : parts.mapM (fun p => (ev l p.2).map fun v => (p.1, v)) = some vs) (hf : Instr.fill (pl[·]?) z.cells vs = some cs.toArray) : RunV P N l ⟨d, .build s parts.toArray, t, ps, af, g⟩ w (.agg cs.toArray) := fun a ha => by
  have hvs : ∀ (parts : List (Nat × Operand)) vs, parts.mapM (fun p => (ev l p.2).map fun v => (p.1, v)) = some vs → parts.map (fun p => (p.1, a.eval p.2)) = vs := by
    intro parts
    induction parts with
    | nil => intro vs h; simp at h; subst h; rfl
    | cons p ps ih =>
      intro vs h
      simp only [List.mapM_cons] at h
      cases he : ev l p.2 with
      | none => simp [he] at h
      | some v =>
        cases hr : List.mapM (fun p => (ev l p.2).map fun v => (p.1, v)) ps with
        | none => simp [he, hr] at h
        | some r =>
          simp [he, hr] at h
          subst h
          simp [ha.ev he, ih r hr]
  have h1 := hvs parts vs hv
  have h2 := run_places (P := P) (w := w) fs pl hpl
  have h2' : ((List.mapM (fun f => Prod.mk f.offset <$> sizeOf f.type) fs : Sem _)).run P w = .ok pl w := h2
  simp [execOp, Instr.build, hz, run_underlying hu, h1, h2', hf]
theorem evp_of' {a : Act} (ha : Holds N l a) : ∀ (parts : List (Nat × Operand)) vs, parts.mapM (fun p => (ev l p.2).map fun v => (p.1, v)) = some vs → parts.map (fun p => (p.1, a.eval p.2)) = vs := by
  intro parts
  induction parts with
  | nil => intro vs h; simp at h; subst h; rfl
  | cons p ps ih =>
    intro vs h
    simp only [List.mapM_cons] at h
    cases he : ev l p.2 with
    | none => simp [he] at h
    | some v =>
      cases hr : List.mapM (fun p => (ev l p.2).map fun v => (p.1, v)) ps with
      | none => simp [he, hr] at h
      | some r =>
        simp [he, hr] at h
        subst h
        simp [ha.ev he, ih r hr]
theorem rv_buildArr {s e : TypeId} {n sz : Nat} {z : Value} {parts : List (Nat × Operand)} {vs : List (Nat × Value)} {cs : List Value} (hz : ∀ w, (zeroValue s).run P w = .ok z w) (hu : P.underlying s = some (.array n e)) (hs : ∀ w, (sizeOf e).run P w = .ok sz w)
    (hv : parts.mapM (fun p => (ev l p.2).map fun v => (p.1, v)) = some vs) (hf : Instr.fill (fun i => some (i * sz, sz)) z.cells vs = some cs.toArray) : RunV P N l ⟨d, .build s parts.toArray, t, ps, af, g⟩ w (.agg cs.toArray) := fun a ha => by
  have h1 := evp_of' ha parts vs hv
  simp [execOp, Instr.build, hz, run_underlying hu, h1, hs, hf]
theorem rv_makeFunc {f : FuncId} {cap : List Operand} {vs : List Value} (hv : cap.mapM (ev l) = some vs) : RunV P N l ⟨d, .makeFunc (.func f) #[] cap.toArray, t, ps, af, g⟩ w (.func (.func f) #[] vs.toArray) := fun a ha => by
  have : ∀ (cap : List Operand) vs, cap.mapM (ev l) = some vs → cap.map a.eval = vs := by
    intro cap
    induction cap with
    | nil => intro vs h; simp at h; subst h; rfl
    | cons p ps ih =>
      intro vs h
      simp only [List.mapM_cons] at h
      cases he : ev l p with
      | none => simp [he] at h
      | some v =>
        cases hr : ps.mapM (ev l) with
        | none => simp [he, hr] at h
        | some r =>
          simp [he, hr] at h
          subst h
          simp [ha.ev he, ih r hr]
  simp [execOp, Instr.makeFunc, this cap vs hv]
/-- A call by name; a call of a function value that is known. -/
theorem evs_of {a : Act} (ha : Holds N l a) : ∀ (cap : List Operand) vs, cap.mapM (ev l) = some vs → cap.map a.eval = vs := by
  intro cap
  induction cap with
  | nil => intro vs h; simp at h; subst h; rfl
  | cons p ps ih =>
    intro vs h
    simp only [List.mapM_cons] at h
    cases he : ev l p with
    | none => simp [he] at h
    | some v =>
      cases hr : ps.mapM (ev l) with
      | none => simp [he, hr] at h
      | some r =>
        simp [he, hr] at h
        subst h
        simp [ha.ev he, ih r hr]
theorem rc_func {f : FuncId} {args : List Operand} {ats : Array TypeId} {vs : List Value} (hc : ∀ args w, (callFunc f args).run P w = .ok (.enter f args) w) (hv : args.mapM (ev l) = some vs) :
    RunC P N l ⟨d, .call { callee := .value (.func f), args := args.toArray, argTypes := ats }, t, ps, af, g⟩ w f vs.toArray := fun a ha => by
  simp [execOp, resolve, invoke, Deferred.ofValue, Act.eval, hc, evs_of ha args vs hv]
theorem rc_val {f : FuncId} {s : Nat} {args : List Operand} {ats : Array TypeId} {vs cap : List Value} (hc : ∀ args w, (callFunc f args).run P w = .ok (.enter f args) w) (hs : lk s l = some (.func (.func f) #[] cap.toArray)) (hv : args.mapM (ev l) = some vs) :
    RunC P N l ⟨d, .call { callee := .value (.tmp s), args := args.toArray, argTypes := ats }, t, ps, af, g⟩ w f (vs ++ cap).toArray := fun a ha => by
  have h1 : a.eval (.tmp s) = .func (.func f) #[] cap.toArray := ha.ev (x := .tmp s) hs
  simp [execOp, resolve, invoke, Deferred.ofValue, h1, hc, evs_of ha args vs hv]
theorem rc_val1 {f : FuncId} {s : Nat} {args : List Operand} {ats : Array TypeId} {vs : List Value} {p : Value} (hc : ∀ args w, (callFunc f args).run P w = .ok (.enter f args) w) (hs : lk s l = some (.func (.func f) #[p] #[])) (hv : args.mapM (ev l) = some vs) :
    RunC P N l ⟨d, .call { callee := .value (.tmp s), args := args.toArray, argTypes := ats }, t, ps, af, g⟩ w f (p :: vs).toArray := fun a ha => by
  have h1 : a.eval (.tmp s) = .func (.func f) #[p] #[] := ha.ev (x := .tmp s) hs
  simp [execOp, resolve, invoke, Deferred.ofValue, h1, hc, evs_of ha args vs hv]
end

/-! ### The beginning and the end of a function -/
def enumFrom (i : Nat) : List Value → Env
  | [] => []
  | v :: vs => (i, v) :: enumFrom (i + 1) vs
theorem lk_enum : ∀ (vs : List Value) (i t : Nat) (v : Value), lk t (enumFrom i vs) = some v → i ≤ t ∧ vs[t - i]? = some v
  | [], i, t, v, h => by cases h
  | u :: vs, i, t, v, h => by
    simp only [enumFrom, lk] at h
    cases hb : Nat.beq t i with
    | true =>
      rw [hb] at h
      simp only [Option.some.injEq] at h
      subst h
      have := Nat.eq_of_beq_eq_true hb
      subst this
      simp
    | false =>
      rw [hb] at h
      obtain ⟨h1, h2⟩ := lk_enum vs (i + 1) t v h
      refine ⟨by omega, ?_⟩
      have : t - i = (t - (i + 1)) + 1 := by omega
      rw [this]
      simpa using h2
/-- What a function's end asks. -/
def RetK (P : Program) (fn : Func) (R : Ending → World → Prop) (a : Act) (w : World) : Prop := a.defers = [] ∧ ∃ v, (results fn a.tmps).run P w = .ok v w ∧ R (.returned v) w
theorem calls_enter {P : Program} {px : Value → World → Prop} {f : FuncId} {fn : Func} {c : Code} {vs : List Value} {w : World} {R : Ending → World → Prop} {N : Nat} (hf : P.funcs[f]? = some fn) (hb : fn.body = some c) (hN : fn.ntmps = N) (hle : Nat.ble vs.length N = true) (hpx : ∀ v w, px v w → R (.panicked [pe v]) w)
    (h : WC P px c (RetK P fn R) (fun _ _ _ => False) (RetK P fn R) N (enumFrom 0 vs) w) : Calls P f vs.toArray w R := by
  subst hN
  have hle' : vs.length ≤ fn.ntmps := Nat.le_of_ble_eq_true hle
  refine calls_of_wp hf hb (wp_mono (h _ ⟨?_, rfl, ?_⟩) fun e a w hq => ?_)
  · simp; omega
  · intro t v hv
    obtain ⟨_, h2⟩ := lk_enum vs 0 t v hv
    simp only [Nat.sub_zero] at h2
    have hlt := (List.getElem?_eq_some_iff.1 h2).1
    rw [Array.getElem?_append_left (by simpa using hlt)]
    simpa using h2
  · cases e <;> first | exact hq | exact hq.elim | (obtain ⟨v, rfl, hd, hq⟩ := hq; exact ⟨hd, hpx v w hq⟩)
/-- One result. -/
def resOne (tmps : Array Value) : ResultVar → Sem Value
  | .tmp t => pure (tmps.getD t undef)
  | .cell p t => do loadVar t (← asAddr (tmps.getD p undef))
def RV1 (P : Program) (N : Nat) (l : Env) (w : World) (rv : ResultVar) (v : Value) : Prop :=
  ∀ a, Holds N l a → (resOne a.tmps rv).run P w = .ok v w
def RVs (P : Program) (N : Nat) (l : Env) (w : World) : List ResultVar → List Value → Prop
  | [], [] => True
  | r :: rs, v :: vs => RV1 P N l w r v ∧ RVs P N l w rs vs
  | _, _ => False
theorem rv1_tmp {P : Program} {N : Nat} {l : Env} {w : World} {t : Nat} {v : Value} (h : lk t l = some v) : RV1 P N l w (.tmp t) v := fun a ha => by
  simp [resOne, ha.get t v h]
def retVal : List Value → Value
  | [v] => v
  | vs => .tuple vs.toArray
theorem run_results {P : Program} {N : Nat} {l : Env} {w : World} {fn : Func} {rs : List ResultVar} {vs : List Value} (hr : fn.results = rs.toArray) (h : RVs P N l w rs vs) {a : Act} (ha : Holds N l a) : (results fn a.tmps).run P w = .ok (retVal vs) w := by
  have key : ∀ (rs : List ResultVar) (vs : List Value), RVs P N l w rs vs → (rs.mapM (resOne a.tmps)).run P w = .ok vs w := by
    intro rs
    induction rs with
    | nil => intro vs h; cases vs with
      | nil => rfl
      | cons v vs => exact h.elim
    | cons r rs ih =>
      intro vs h
      cases vs with
      | nil => exact h.elim
      | cons v vs =>
        have h1 := h.1 a ha
        have h2 := ih vs h.2
        simp only [List.mapM_cons, Sem.run_bind, h1, h2, Result.andThen_ok, Sem.run_pure]
  have h1 := key rs vs h
  have e : results fn a.tmps = (do let vs ← rs.toArray.mapM (resOne a.tmps); pure (if h : vs.size = 1 then vs[0] else .tuple vs)) := by
    unfold results
    rw [hr]
    congr 1
  rw [e]
  simp only [List.mapM_toArray, Sem.run_bind, Sem.run_map, h1, Result.andThen_ok, Sem.run_pure]
  match vs with
  | [] => simp [retVal]
  | [v] => simp [retVal]
  | v :: u :: vs => simp [retVal]
theorem retK {P : Program} {N : Nat} {l : Env} {w : World} {fn : Func} {rs : List ResultVar} {vs : List Value} {R : Ending → World → Prop} (hr : fn.results = rs.toArray) (h : RVs P N l w rs vs) (hR : R (.returned (retVal vs)) w) : ∀ a, Holds N l a → RetK P fn R a w :=
  fun _ ha => ⟨ha.defers, _, run_results hr h ha, hR⟩
end V
end Go.Proofs.YtladkmnfmpojiaaGreatDoor
namespace Go.Proofs.YtladkmnfmpojiaaGreatDoor
namespace V

/-! ### Readings -/
/-- A reading: which blocks may still turn (they are not read), the world, the cells, the datum. -/
abbrev RT (α : Type) := (Nat → Prop) → World → List Value → α → Prop
class GRep {α : Type} (R : RT α) : Prop where
  step : ∀ {U U' : Nat → Prop} {w w' : World} {cs : List Value} {x : α}, R U w cs x → (∀ b, b < w.heap.size → ¬ U b → w'.heap[b]? = w.heap[b]?) → (∀ b, b < w.heap.size → U' b → U b) → R U' w' cs x
  one : ∀ {U : Nat → Prop} {w : World} {cs : List Value} {x : α}, R U w cs x → ∀ u ∈ cs, u.oneCell' = true
def RInt (k : IntKind) : RT Int := fun _ _ cs n => cs = [.int k n]
def RBool : RT Bool := fun _ _ cs b => cs = [.bool b]
def RStr : RT (List Int) := fun _ _ cs s => ∃ b, cs = [.string b] ∧ strOf b = s
instance (k : IntKind) : GRep (RInt k) := ⟨fun h _ _ => h, fun h u hu => by unfold RInt at h; subst h; simp at hu; subst hu; rfl⟩
instance : GRep RBool := ⟨fun h _ _ => h, fun h u hu => by unfold RBool at h; subst h; simp at hu; subst hu; rfl⟩
instance : GRep RStr := ⟨fun h _ _ => h, fun h u hu => by obtain ⟨b, rfl, _⟩ := h; simp at hu; subst hu; rfl⟩

section
variable {α : Type}
def Els (sz : Nat) (R : RT α) (U : Nat → Prop) (w : World) : List Value → List α → Prop
  | es, [] => es = []
  | es, x :: xs => ∃ e1 e2, es = e1 ++ e2 ∧ e1.length = sz ∧ R U w e1 x ∧ Els sz R U w e2 xs
def Mem (U : Nat → Prop) (w : World) (A : Option Addr) (es : List Value) : Prop := ∀ j u, es[j]? = some u → ∃ ad, A = some ad ∧ ¬ U ad.block ∧ w.cell? (ad.add j) = some u
def Sl (sz : Nat) (R : RT α) (U : Nat → Prop) (w : World) (A : Option Addr) (c : Nat) (l : List α) : Prop := l.length ≤ c ∧ c ≤ maxLen ∧ ∃ es, Els sz R U w es l ∧ Mem U w A es
def RSl (sz : Nat) (R : RT α) : RT (List α) := fun U w cs l => ∃ A c, cs = [.slice A l.length c] ∧ Sl sz R U w A c l
/-- The type of the bytes: 5 in each program. -/
def BT : TypeId := 5
/-- A row of which no cell is frozen (the mark of a conversion's row lies behind it). -/
def Fz (e : TypeId) (fz : Nat × Nat) (n : Nat) : Prop := fz = (0, 0) ∨ (n ≤ fz.1 ∧ e = BT)
def ownsR (w : World) (e : TypeId) (size : Nat) (v : Value) (n : Nat) (xs : List Value) : Prop :=
  xs.length = n * size ∧
  ((v = .slice none 0 0 ∧ n = 0) ∨
   ∃ (g : Nat) (pre : List Value) (cap : Nat) (cur post : List Value) (fz : Nat × Nat), v = .slice (some ⟨g, pre.length, none⟩) n cap ∧ Fz e fz (pre ++ cur ++ post).length ∧ w.heap[g]? = some (.cells (pre ++ cur ++ post).toArray e fz) ∧ n ≤ cap ∧ cap ≤ maxLen ∧ cur.length = cap * size ∧ cur.take (n * size) = xs)
theorem row_get {α : Type} {pre cur post : List α} {j : Nat} (hj : j < cur.length) : (pre ++ cur ++ post)[pre.length + j]? = cur[j]? := by
  rw [List.append_assoc, List.getElem?_append_right (by omega), Nat.add_sub_cancel_left, List.getElem?_append_left hj]
theorem row_put {α : Type} {pre cur post vs : List α} {k : Nat} (hk : k + vs.length ≤ cur.length) : (pre ++ cur ++ post).take (pre.length + k) ++ vs ++ (pre ++ cur ++ post).drop (pre.length + k + vs.length) = pre ++ (cur.take k ++ vs ++ cur.drop (k + vs.length)) ++ post := by
  have h1 : (pre ++ cur ++ post).take (pre.length + k) = pre ++ cur.take k := by
    rw [List.append_assoc, List.take_append, List.take_of_length_le (by omega), Nat.add_sub_cancel_left, List.take_append, show k - cur.length = 0 from by omega, List.take_zero, List.append_nil]
  have h2 : (pre ++ cur ++ post).drop (pre.length + k + vs.length) = cur.drop (k + vs.length) ++ post := by
    rw [List.append_assoc, Nat.add_assoc, List.drop_append, List.drop_of_length_le (by omega), List.nil_append, Nat.add_sub_cancel_left, List.drop_append, show k + vs.length - cur.length = 0 from by omega, List.drop_zero]
  rw [h1, h2]
  simp only [List.append_assoc]
theorem row_len {α : Type} {pre cur post cur' : List α} (h : cur'.length = cur.length) : (pre ++ cur' ++ post).length = (pre ++ cur ++ post).length := by
  simp only [List.length_append, h]
theorem ownsR_of {w : World} {e : TypeId} {size : Nat} {v : Value} {n : Nat} {xs : List Value} (h : w.ownsRow 0 e size v n xs) : ownsR w e size v n xs := by
  refine ⟨h.1, ?_⟩
  rcases h.2 with hn | ⟨g, cap, cur, hv, _, hg, h1, h2, h3, h4⟩
  · exact .inl hn
  · exact .inr ⟨g, [], cap, cur.toList, [], (0, 0), hv, .inl rfl, by simpa using hg, h1, h2, by simpa using h3, h4⟩
theorem ownsR.cells {w : World} {e : TypeId} {size : Nat} {v : Value} {n : Nat} {xs : List Value} (h : ownsR w e size v n xs) {A : Addr} {m c : Nat} (hg : v = .slice (some A) m c) : ∀ j u, xs[j]? = some u → w.cell? (A.add j) = some u := by
  intro j u hu
  rcases h.2 with ⟨rfl, _⟩ | ⟨g', pre, cap, cur, post, fz, rfl, _, hgg, _, _, _, htake⟩
  · cases hg
  · injection hg with hg _ _
    injection hg with hg
    subst hg
    have hadd : (⟨g', pre.length, none⟩ : Addr).add j = ⟨g', pre.length + j, none⟩ := by unfold Addr.add; split <;> simp_all
    rw [hadd]
    rw [← htake, List.getElem?_take] at hu
    split at hu
    · simp only [World.cell?, hgg]
      have hj : j < cur.length := (List.getElem?_eq_some_iff.1 hu).1
      rw [← hu, ← row_get (pre := pre) (post := post) hj]
      simp
    · cases hu
theorem ownsR.lt {w : World} {e : TypeId} {size : Nat} {v : Value} {n : Nat} {xs : List Value} (h : ownsR w e size v n xs) : ∀ k, v.ownBlock = some k → k < w.heap.size := by
  intro k hk
  rcases h.2 with ⟨rfl, _⟩ | ⟨g, pre, cap, cur, post, fz, rfl, _, hg, _⟩
  · simp [Value.ownBlock] at hk
  · simp [Value.ownBlock] at hk
    subst hk
    exact (Array.getElem?_eq_some_iff.1 hg).1
def Own (sz : Nat) (E : TypeId) (R : RT α) (U : Nat → Prop) (w : World) (A : Option Addr) (c : Nat) (l : List α) : Prop := ∃ xs, ownsR w E sz (.slice A l.length c) l.length xs ∧ Els sz R U w xs l
def Blk (w : World) (g : Nat) (T : TypeId) (cs : List Value) : Prop := w.heap[g]? = some (.cells cs.toArray T (0, 0))
def At (U : Nat → Prop) (w : World) (ad : Addr) (es : List Value) : Prop := ¬ U ad.block ∧ ∀ j u, es[j]? = some u → w.cell? (ad.add j) = some u

theorem cell_lt {w : World} {p : Addr} {u : Value} (h : w.cell? p = some u) : p.block < w.heap.size := by
  rcases Nat.lt_or_ge p.block w.heap.size with hlt | hge
  · exact hlt
  · simp [World.cell?, Array.getElem?_eq_none hge] at h
theorem cell_same {w w' : World} {p : Addr} (h : w'.heap[p.block]? = w.heap[p.block]?) : w'.cell? p = w.cell? p := by
  unfold World.cell?
  rw [h]
theorem block_add (ad : Addr) (n : Nat) : (ad.add n).block = ad.block := by unfold Addr.add; split <;> rfl
theorem add_add (ad : Addr) (m n : Nat) : (ad.add m).add n = ad.add (m + n) := by
  unfold Addr.add
  by_cases h1 : m = 0 <;> by_cases h2 : n = 0 <;> simp [h1, h2] <;> omega
theorem Els.step {sz : Nat} {R : RT α} [GRep R] {U U' : Nat → Prop} {w w' : World} (h1 : ∀ b, b < w.heap.size → ¬ U b → w'.heap[b]? = w.heap[b]?) (h2 : ∀ b, b < w.heap.size → U' b → U b) :
    ∀ (l : List α) (es : List Value), Els sz R U w es l → Els sz R U' w' es l
  | [], _, h => h
  | x :: xs, es, h => by
    obtain ⟨e1, e2, rfl, hl, hr, ht⟩ := h
    exact ⟨e1, e2, rfl, hl, GRep.step hr h1 h2, Els.step h1 h2 xs e2 ht⟩
theorem Els.one {sz : Nat} {R : RT α} [GRep R] {U : Nat → Prop} {w : World} : ∀ (l : List α) (es : List Value), Els sz R U w es l → ∀ u ∈ es, u.oneCell' = true
  | [], es, h => by simp only [Els] at h; subst h; simp
  | x :: xs, es, h => by
    obtain ⟨e1, e2, rfl, hl, hr, ht⟩ := h
    intro u hu
    rcases List.mem_append.1 hu with hu | hu
    · exact GRep.one hr u hu
    · exact Els.one xs e2 ht u hu
theorem Els.length {sz : Nat} {R : RT α} {U : Nat → Prop} {w : World} : ∀ (l : List α) (es : List Value), Els sz R U w es l → es.length = l.length * sz
  | [], es, h => by simp only [Els] at h; subst h; simp
  | x :: xs, es, h => by
    obtain ⟨e1, e2, rfl, hl, hr, ht⟩ := h
    rw [List.length_append, hl, Els.length xs e2 ht, List.length_cons, Nat.succ_mul, Nat.add_comm]
theorem Els.append {sz : Nat} {R : RT α} {U : Nat → Prop} {w : World} : ∀ (l : List α) (es : List Value) (m : List α) (fs : List Value), Els sz R U w es l → Els sz R U w fs m → Els sz R U w (es ++ fs) (l ++ m)
  | [], es, m, fs, h, k => by simp only [Els] at h; subst h; simpa using k
  | x :: xs, es, m, fs, h, k => by
    obtain ⟨e1, e2, rfl, hl, hr, ht⟩ := h
    exact ⟨e1, e2 ++ fs, by simp, hl, hr, Els.append xs e2 m fs ht k⟩
theorem Els.drop {sz : Nat} {R : RT α} {U : Nat → Prop} {w : World} : ∀ (k : Nat) (l : List α) (es : List Value), Els sz R U w es l → Els sz R U w (es.drop (k * sz)) (l.drop k)
  | 0, l, es, h => by simpa using h
  | k + 1, [], es, h => by simp only [Els] at h; subst h; simp [Els]
  | k + 1, x :: xs, es, h => by
    obtain ⟨e1, e2, rfl, hl, hr, ht⟩ := h
    have := Els.drop k xs e2 ht
    have e : (e1 ++ e2).drop ((k + 1) * sz) = e2.drop (k * sz) := by
      rw [Nat.succ_mul, Nat.add_comm, ← List.drop_drop, ← hl, List.drop_left]
    rw [e]
    simpa using this
theorem Els.take {sz : Nat} {R : RT α} {U : Nat → Prop} {w : World} : ∀ (k : Nat) (l : List α) (es : List Value), Els sz R U w es l → Els sz R U w (es.take (k * sz)) (l.take k)
  | 0, l, es, h => by simp [Els]
  | k + 1, [], es, h => by simp only [Els] at h; subst h; simp [Els]
  | k + 1, x :: xs, es, h => by
    obtain ⟨e1, e2, rfl, hl, hr, ht⟩ := h
    have := Els.take k xs e2 ht
    refine ⟨e1, e2.take (k * sz), ?_, hl, hr, this⟩
    rw [List.take_append, hl, Nat.succ_mul, Nat.add_sub_cancel, List.take_of_length_le (by omega)]
theorem Els.get {sz : Nat} {R : RT α} {U : Nat → Prop} {w : World} : ∀ (l : List α) (es : List Value) (i : Nat) (x : α), Els sz R U w es l → l[i]? = some x → ∃ e1, e1.length = sz ∧ R U w e1 x ∧ ∀ j u, e1[j]? = some u → es[i * sz + j]? = some u
  | [], es, i, x, h, hx => by simp at hx
  | y :: xs, es, 0, x, h, hx => by
    obtain ⟨e1, e2, rfl, hl, hr, ht⟩ := h
    simp at hx
    subst hx
    refine ⟨e1, hl, hr, fun j u hu => ?_⟩
    have := (List.getElem?_eq_some_iff.1 hu).1
    rw [Nat.zero_mul, Nat.zero_add, List.getElem?_append_left this]
    exact hu
  | y :: xs, es, i + 1, x, h, hx => by
    obtain ⟨e1, e2, rfl, hl, hr, ht⟩ := h
    simp at hx
    obtain ⟨f, h1, h2, h3⟩ := Els.get xs e2 i x ht hx
    refine ⟨f, h1, h2, fun j u hu => ?_⟩
    rw [List.getElem?_append_right (by rw [hl, Nat.succ_mul]; omega), ← h3 j u hu]
    congr 1
    rw [hl, Nat.succ_mul]
    omega
theorem Els.set {sz : Nat} {R : RT α} {U : Nat → Prop} {w : World} : ∀ (l : List α) (es : List Value) (i : Nat) (x : α) (e : List Value), Els sz R U w es l → i < l.length → e.length = sz → R U w e x → Els sz R U w (es.take (i * sz) ++ e ++ es.drop (i * sz + sz)) (l.set i x)
  | [], es, i, x, e, h, hi, _, _ => by simp at hi
  | y :: xs, es, 0, x, e, h, hi, he, hx => by
    obtain ⟨e1, e2, rfl, hl, hr, ht⟩ := h
    refine ⟨e, e2, ?_, he, hx, ht⟩
    simp [← hl]
  | y :: xs, es, i + 1, x, e, h, hi, he, hx => by
    obtain ⟨e1, e2, rfl, hl, hr, ht⟩ := h
    have := Els.set xs e2 i x e ht (by simpa using hi) he hx
    refine ⟨e1, _, ?_, hl, hr, this⟩
    rw [Nat.succ_mul, List.take_append, List.drop_append, hl, List.take_of_length_le (by omega), List.drop_of_length_le (by omega), List.nil_append]
    rw [show i * sz + sz - sz = i * sz from by omega, show i * sz + sz + sz - sz = i * sz + sz from by omega]
    simp [List.append_assoc]
theorem Mem.step {U U' : Nat → Prop} {w w' : World} {A : Option Addr} {es : List Value} (h : Mem U w A es) (h1 : ∀ b, b < w.heap.size → ¬ U b → w'.heap[b]? = w.heap[b]?) (h2 : ∀ b, b < w.heap.size → U' b → U b) : Mem U' w' A es := fun j u hu => by
  obtain ⟨ad, rfl, hn, hc⟩ := h j u hu
  have hlt := cell_lt hc
  rw [block_add] at hlt
  exact ⟨ad, rfl, fun hU => hn (h2 _ hlt hU), (cell_same (by rw [block_add]; exact h1 _ hlt hn)).trans hc⟩
theorem Sl.step {sz : Nat} {R : RT α} [GRep R] {U U' : Nat → Prop} {w w' : World} {A : Option Addr} {c : Nat} {l : List α} (h : Sl sz R U w A c l) (h1 : ∀ b, b < w.heap.size → ¬ U b → w'.heap[b]? = w.heap[b]?) (h2 : ∀ b, b < w.heap.size → U' b → U b) : Sl sz R U' w' A c l := by
  obtain ⟨a, b, es, he, hm⟩ := h
  exact ⟨a, b, es, Els.step h1 h2 _ _ he, hm.step h1 h2⟩
instance (sz : Nat) (R : RT α) [GRep R] : GRep (RSl sz R) := ⟨fun h h1 h2 => by
    obtain ⟨A, c, rfl, hs⟩ := h
    exact ⟨A, c, rfl, hs.step h1 h2⟩,
  fun h u hu => by obtain ⟨A, c, rfl, _⟩ := h; simp at hu; subst hu; rfl⟩
theorem Sl.nil {sz : Nat} {R : RT α} {U : Nat → Prop} {w : World} {A : Option Addr} {c : Nat} (hc : c ≤ maxLen) : Sl sz R U w A c [] := ⟨Nat.zero_le _, hc, [], rfl, fun j u hu => by simp at hu⟩
theorem Sl.nil0 {sz : Nat} {R : RT α} {U : Nat → Prop} {w : World} : Sl sz R U w none 0 [] := Sl.nil (Nat.zero_le _)
theorem Own.nil {sz : Nat} {E : TypeId} {R : RT α} {U : Nat → Prop} {w : World} : Own sz E R U w none 0 [] := ⟨[], ⟨by simp, .inl ⟨rfl, rfl⟩⟩, rfl⟩
end

/-! ### What the call owns -/
structure Step (X : List (Option Nat)) (w w' : World) : Prop where
  os : w'.os = w.os
  tape : w'.tape = w.tape
  output : w'.output = w.output
  size : w.heap.size ≤ w'.heap.size
  block : ∀ b, b < w.heap.size → some b ∉ X → w'.heap[b]? = w.heap[b]?
theorem Step.refl {X : List (Option Nat)} {w : World} : Step X w w := ⟨rfl, rfl, rfl, Nat.le_refl _, fun _ _ _ => rfl⟩
def ob (A : Option Addr) : Option Nat := A.map (·.block)
def Mu (U0 : Nat → Prop) (L : List (Option Nat)) : Nat → Prop := fun b => U0 b ∨ some b ∈ L
structure Ctx (U0 : Nat → Prop) (X0 : List (Option Nat)) (w0 : World) (L : List (Option Nat)) (w : World) : Prop where
  step : Step X0 w0 w
  u0 : ∀ b, U0 b → b < w0.heap.size
  live : ∀ b, some b ∈ L → b < w.heap.size ∧ ¬ U0 b ∧ (w0.heap.size ≤ b ∨ some b ∈ X0)
  sep : ∀ (i j b : Nat), i ≠ j → L[i]? = some (some b) → L[j]? = some (some b) → False
/-- From one moment to the next: which blocks may have been written (X). -/
structure TR (U0 : Nat → Prop) (L : List (Option Nat)) (w : World) (L' : List (Option Nat)) (w' : World) (X : List (Option Nat)) : Prop where
  size : w.heap.size ≤ w'.heap.size
  block : ∀ b, b < w.heap.size → some b ∉ X → w'.heap[b]? = w.heap[b]?
  xin : ∀ b, some b ∈ X → some b ∈ L
  mono : ∀ b, b < w.heap.size → Mu U0 L' b → Mu U0 L b

section
variable {α : Type} {U0 : Nat → Prop} {X0 X : List (Option Nat)} {w0 w w' : World} {L L' : List (Option Nat)}
theorem Ctx.start {U0 : Nat → Prop} {w0 : World} (h : ∀ b, U0 b → b < w0.heap.size) : Ctx U0 [] w0 [] w0 := ⟨Step.refl, h, fun b hb => by simp at hb, fun i j b _ h => by simp at h⟩
theorem TR.h1 (T : TR U0 L w L' w' X) : ∀ b, b < w.heap.size → ¬ Mu U0 L b → w'.heap[b]? = w.heap[b]? := fun b hb hn => T.block b hb fun e => hn (.inr (T.xin b e))
theorem TR.rep {R : RT α} [GRep R] {cs : List Value} {d : α} (T : TR U0 L w L' w' X) (h : R (Mu U0 L) w cs d) : R (Mu U0 L') w' cs d := GRep.step h T.h1 T.mono
theorem TR.sl {sz : Nat} {R : RT α} [GRep R] {A : Option Addr} {c : Nat} {d : List α} (T : TR U0 L w L' w' X) (h : Sl sz R (Mu U0 L) w A c d) : Sl sz R (Mu U0 L') w' A c d := h.step T.h1 T.mono
theorem TR.at_ {ad : Addr} {es : List Value} (T : TR U0 L w L' w' X) (h : At (Mu U0 L) w ad es) (h0 : es ≠ []) : At (Mu U0 L') w' ad es := by
  obtain ⟨hn, hc⟩ := h
  have hlt : ad.block < w.heap.size := by
    match es, h0 with
    | u :: es, _ =>
      have := cell_lt (hc 0 u rfl)
      rwa [block_add] at this
  exact ⟨fun hU => hn (T.mono _ hlt hU), fun j u hu => (cell_same (by rw [block_add]; exact T.h1 _ hlt hn)).trans (hc j u hu)⟩
theorem Blk.lt {w : World} {g : Nat} {t : TypeId} {cs : List Value} (h : Blk w g t cs) : g < w.heap.size := by
  rcases Nat.lt_or_ge g w.heap.size with hlt | hge
  · exact hlt
  · unfold Blk at h; rw [Array.getElem?_eq_none hge] at h; cases h
theorem Blk.cell {w : World} {g : Nat} {t : TypeId} {cs : List Value} (h : Blk w g t cs) (i : Nat) : w.cell? ⟨g, i, none⟩ = cs[i]? := by
  unfold Blk at h
  simp [World.cell?, h]
theorem TR.blk {g : Nat} {t : TypeId} {cs : List Value} (T : TR U0 L w L' w' X) (hne : ∀ b, some g = some b → some b ∉ X) (h : Blk w g t cs) : Blk w' g t cs :=
  (T.block g h.lt (hne g rfl)).trans h
theorem TR.own {sz : Nat} {E : TypeId} {R : RT α} [GRep R] {A : Option Addr} {c : Nat} {d : List α} (T : TR U0 L w L' w' X) (hne : ∀ b, ob A = some b → some b ∉ X) (h : Own sz E R (Mu U0 L) w A c d) : Own sz E R (Mu U0 L') w' A c d := by
  obtain ⟨xs, ⟨hl, hr⟩, he⟩ := h
  refine ⟨xs, ⟨hl, ?_⟩, Els.step T.h1 T.mono _ _ he⟩
  rcases hr with h | ⟨g, pre, cap, cur, post, fz, hv, hb, hg, rest⟩
  · exact .inl h
  · refine .inr ⟨g, pre, cap, cur, post, fz, hv, hb, ?_, rest⟩
    have hlt : g < w.heap.size := by
      rcases Nat.lt_or_ge g w.heap.size with hlt | hge
      · exact hlt
      · rw [Array.getElem?_eq_none hge] at hg; cases hg
    rw [T.block g hlt (hne g (by injection hv with hA; subst hA; rfl))]
    exact hg
theorem ne0 {y : Option Nat} : ∀ b, y = some b → some b ∉ ([] : List (Option Nat)) := fun _ _ h => by simp at h
/-- Less is owned: positions that are given up. -/
theorem Mu.weaken (h : ∀ b, some b ∈ L' → some b ∈ L) : ∀ b, Mu U0 L' b → Mu U0 L b := fun b hb => hb.imp id (h b)
theorem TR.refl_of (h : ∀ b, some b ∈ L' → some b ∈ L) : TR U0 L w L' w [] := ⟨Nat.le_refl _, fun _ _ _ => rfl, fun b e => (by simp at e), fun b _ => Mu.weaken h b⟩
theorem join_some {o : Option (Option Nat)} {b : Nat} (h : o.join = some b) : o = some (some b) := by
  cases o with
  | none => cases h
  | some o => cases o with
    | none => cases h
    | some c => exact congrArg some h
theorem pick_get (is : List Nat) (hL : is.map (fun i => (L[i]?).join) = L') : ∀ (k b : Nat), L'[k]? = some (some b) → ∃ i, is[k]? = some i ∧ L[i]? = some (some b) := fun k b hk => by
  subst hL
  rw [List.getElem?_map] at hk
  cases hi : is[k]? with
  | none => simp [hi] at hk
  | some i =>
    simp only [hi, Option.map_some, Option.some.injEq] at hk
    exact ⟨i, rfl, join_some hk⟩
theorem mem_pick (is : List Nat) (hL : is.map (fun i => (L[i]?).join) = L') : ∀ b, some b ∈ L' → some b ∈ L := fun b hb => by
  obtain ⟨k, hk⟩ := List.getElem?_of_mem hb
  obtain ⟨i, _, hi⟩ := pick_get is hL k b hk
  exact List.mem_of_getElem? hi
theorem Ctx.pick (C : Ctx U0 X0 w0 L w) (is : List Nat) (hn : is.Nodup) (hL : is.map (fun i => (L[i]?).join) = L') : Ctx U0 X0 w0 L' w := by
  refine ⟨C.step, C.u0, fun b hb => C.live b (mem_pick is hL b hb), fun p q b hpq hp hq => ?_⟩
  obtain ⟨i, h1, h2⟩ := pick_get is hL p b hp
  obtain ⟨j, h3, h4⟩ := pick_get is hL q b hq
  refine C.sep i j b (fun e => hpq ?_) h2 h4
  subst e
  exact (List.getElem?_inj (List.getElem?_eq_some_iff.1 h1).1 hn).1 (h1.trans h3.symm)
theorem TR.pick (is : List Nat) (hL : is.map (fun i => (L[i]?).join) = L') : TR U0 L w L' w [] := TR.refl_of (mem_pick is hL)
/-- A slot for a slice that is nil. -/
theorem Ctx.addNone (C : Ctx U0 X0 w0 L w) : Ctx U0 X0 w0 (none :: L) w ∧ TR U0 L w (none :: L) w [] := by
  refine ⟨⟨C.step, C.u0, fun b hb => C.live b (by simpa using hb), fun i j b hij hi hj => ?_⟩, TR.refl_of fun b hb => by simpa using hb⟩
  match i, j with
  | 0, _ => simp at hi
  | _ + 1, 0 => simp at hj
  | i + 1, j + 1 =>
    simp at hi hj
    exact C.sep i j b (by omega) hi hj
/-- A row of the call's own that is not turned any more is read as any other. -/
theorem Own.toSl {sz : Nat} {E : TypeId} {R : RT α} [GRep R] {U U' : Nat → Prop} {A : Option Addr} {c : Nat} {d : List α} (h : Own sz E R U w A c d) (hn : ∀ b, ob A = some b → ¬ U' b) (hm : ∀ b, U' b → U b) : Sl sz R U' w A c d := by
  obtain ⟨xs, hown, he⟩ := h
  have he' : Els sz R U' w xs d := Els.step (fun _ _ _ => rfl) (fun b _ => hm b) _ _ he
  rcases hown.2 with ⟨hv, h0⟩ | ⟨g, pre, cap, cur, post, fz, hv, hb, hg, hnc, hcm, hcs, htake⟩
  · injection hv with hA _ hc
    have hd : d = [] := List.eq_nil_of_length_eq_zero h0
    subst hd
    exact Sl.nil (by rw [hc]; exact Nat.zero_le _)
  · injection hv with hA hl hc
    subst hA
    subst hc
    refine ⟨hnc, hcm, xs, he', fun j u hu => ⟨_, rfl, hn g rfl, ?_⟩⟩
    exact hown.cells rfl j u hu
theorem Ctx.off (C : Ctx U0 X0 w0 L w) {i : Nat} {y : Option Nat} (hi : L[i]? = some y) (is : List Nat) (hL : is.map (fun i => (L[i]?).join) = L') (hni : i ∉ is) : ∀ b, y = some b → ¬ Mu U0 L' b := fun b hy hM => by
  subst hy
  rcases hM with hU | hm
  · exact (C.live b (List.mem_of_getElem? hi)).2.1 hU
  · obtain ⟨k, hk⟩ := List.getElem?_of_mem hm
    obtain ⟨j, h1, h2⟩ := pick_get is hL k b hk
    exact C.sep i j b (fun e => by subst e; exact hni (List.mem_of_getElem? h1)) hi h2
/-- A block that is none of the touched ones. -/
theorem Ctx.ne (C : Ctx U0 X0 w0 L w) {i : Nat} {y : Option Nat} (hi : L[i]? = some y) (is : List Nat) (hL : is.map (fun i => (L[i]?).join) = X) (hni : i ∉ is) : ∀ b, y = some b → some b ∉ X := fun b hy hm =>
  C.off hi is hL hni b hy (.inr hm)
theorem Ctx.alloc (C : Ctx U0 X0 w0 L w) (o : Obj) : Ctx U0 X0 w0 (some w.heap.size :: L) (w.alloc o) ∧ TR U0 L w (some w.heap.size :: L) (w.alloc o) [] := by
  have hsz : (w.alloc o).heap.size = w.heap.size + 1 := by simp
  have hlt : ∀ b, some b ∈ L → b < w.heap.size := fun b hb => (C.live b hb).1
  refine ⟨⟨⟨C.step.os, C.step.tape, C.step.output, by have := C.step.size; omega, fun b hb hX => ?_⟩, C.u0, fun b hb => ?_, fun i j b hij hi hj => ?_⟩, ⟨by omega, fun b hb _ => heap_alloc_old w o b hb, fun b e => (by simp at e), fun b hb hM => ?_⟩⟩
  · have := C.step.size
    rw [heap_alloc_old w o b (by omega)]
    exact C.step.block b hb hX
  · rcases List.mem_cons.1 hb with e | hb
    · injection e with e
      subst e
      have := C.step.size
      exact ⟨by omega, fun hU => by have := C.u0 _ hU; omega, .inl this⟩
    · obtain ⟨h1, h2, h3⟩ := C.live b hb
      exact ⟨by omega, h2, h3⟩
  · match i, j with
    | 0, 0 => exact hij rfl
    | 0, j + 1 =>
      simp at hi hj
      have := hlt b (List.mem_of_getElem? hj)
      omega
    | i + 1, 0 =>
      simp at hi hj
      have := hlt b (List.mem_of_getElem? hi)
      omega
    | i + 1, j + 1 =>
      simp at hi hj
      exact C.sep i j b (by omega) hi hj
  · rcases hM with hU | hm
    · exact .inl hU
    · rcases List.mem_cons.1 hm with e | hm
      · injection e with e
        omega
      · exact .inr hm
/-- A draw turns nothing. -/
theorem Ctx.drew (C : Ctx U0 X0 w0 L w) : Ctx U0 X0 w0 L { w with drawn := w.drawn + 1 } ∧ TR U0 L w L { w with drawn := w.drawn + 1 } [] :=
  ⟨⟨⟨C.step.os, C.step.tape, C.step.output, C.step.size, C.step.block⟩, C.u0, C.live, C.sep⟩, ⟨Nat.le_refl _, fun _ _ _ => rfl, fun b e => (by simp at e), fun _ _ h => h⟩⟩
/-- Behind a step that may have written block i of the call's own, and put another (new) one in its place. -/
theorem Ctx.turn (C : Ctx U0 X0 w0 L w) {i : Nat} {x y : Option Nat} (hi : L[i]? = some x) (hos : w'.os = w.os) (htape : w'.tape = w.tape) (hout : w'.output = w.output) (hsz : w.heap.size ≤ w'.heap.size)
    (hb : ∀ b, b < w.heap.size → x ≠ some b → w'.heap[b]? = w.heap[b]?) (hy : y = x ∨ y = none ∨ (y = some w.heap.size ∧ w.heap.size < w'.heap.size)) (hL : L.set i y = L') : Ctx U0 X0 w0 L' w' ∧ TR U0 L w L' w' [x] := by
  subst hL
  have hin : ∀ b, x = some b → some b ∈ L := fun b e => by subst e; exact List.mem_of_getElem? hi
  have hmem : ∀ b, some b ∈ L.set i y → some b ∈ L ∨ (b = w.heap.size ∧ w.heap.size < w'.heap.size) := fun b hb' => by
    rcases List.mem_or_eq_of_mem_set hb' with h | h
    · exact .inl h
    · rcases hy with e | e | ⟨e, hlt⟩
      · exact .inl (hin b (e ▸ h.symm))
      · rw [e] at h; cases h
      · rw [e] at h; injection h with h; exact .inr ⟨h, hlt⟩
  have h0 := C.step.size
  refine ⟨⟨⟨hos.trans C.step.os, htape.trans C.step.tape, hout.trans C.step.output, Nat.le_trans h0 hsz, fun b hb' hX => ?_⟩, C.u0, fun b hb' => ?_, fun p q b hpq hp hq => ?_⟩, ⟨hsz, fun b hb1 hb2 => hb b hb1 (fun e => hb2 (by simp [e])), fun b e => hin b (by rw [List.mem_singleton] at e; exact e.symm), fun b hb' hM => ?_⟩⟩
  · refine (hb b (by omega) fun e => ?_).trans (C.step.block b hb' hX)
    rcases (C.live b (hin b e)).2.2 with h | h
    · omega
    · exact hX h
  · rcases hmem b hb' with h | ⟨rfl, hlt⟩
    · obtain ⟨h1, h2, h3⟩ := C.live b h
      exact ⟨by omega, h2, h3⟩
    · exact ⟨hlt, fun hU => by have := C.u0 _ hU; omega, .inl h0⟩
  · have hil : i < L.length := (List.getElem?_eq_some_iff.1 hi).1
    have cell : ∀ (p b : Nat), (L.set i y)[p]? = some (some b) → (p ≠ i ∧ L[p]? = some (some b)) ∨ (p = i ∧ y = some b) := fun p b hp => by
      by_cases e : p = i
      · subst e
        rw [List.getElem?_set_self hil] at hp
        exact .inr ⟨rfl, by injection hp⟩
      · rw [List.getElem?_set_ne (fun h => e h.symm)] at hp
        exact .inl ⟨e, hp⟩
    have newer : ∀ p, p ≠ i → L[p]? = some (some b) → y = some b → False := fun p hpi hp hyb => by
      rcases hy with e | e | ⟨e, _⟩
      · rw [e] at hyb
        subst hyb
        exact C.sep p i b hpi hp hi
      · rw [e] at hyb; cases hyb
      · rw [e] at hyb
        injection hyb with hyb
        have := (C.live b (List.mem_of_getElem? hp)).1
        omega
    rcases cell p b hp with ⟨h1, h2⟩ | ⟨h1, h2⟩ <;> rcases cell q b hq with ⟨h3, h4⟩ | ⟨h3, h4⟩
    · exact C.sep p q b hpq h2 h4
    · exact newer p h1 h2 h4
    · exact newer q h3 h4 h2
    · exact hpq (h1.trans h3.symm)
  · rcases hM with hU | hm
    · exact .inl hU
    · rcases hmem b hm with h | ⟨rfl, _⟩
      · exact .inr h
      · omega
end
end V
end Go.Proofs.YtladkmnfmpojiaaGreatDoor
