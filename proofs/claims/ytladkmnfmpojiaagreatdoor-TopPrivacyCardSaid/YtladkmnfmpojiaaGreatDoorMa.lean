/-
  A machine for the kernel: what calls of the program do, reckoned on values of its own.
-/
import GoSem.Dispatch
namespace Go.Proofs.YtladkmnfmpojiaaGreatDoor
namespace I

/-! ### Places and tries -/
inductive P4 where
  | h
  | a (p : P4)
  | b (p : P4)
  | c (p : P4)
  | d (p : P4)
inductive T (α : Type) where
  | l
  | n (v : Option α) (a b c d : T α)
noncomputable section
/-- A number, reckoned before it is handed on. -/
def fN {β : Type} (n : Nat) (k : Nat → β) : β := Nat.rec (motive := fun _ => β) (k 0) (fun m _ => k m) (Nat.succ n)
def fB {β : Type} (b : Bool) (k : Bool → β) : β := Bool.rec (motive := fun _ => β) (k false) (k true) b
def P4.fa (p : P4) : P4 := P4.rec (motive := fun _ => P4) (.a .h) (fun p _ => .a (.a p)) (fun p _ => .a (.b p)) (fun p _ => .a (.c p)) (fun p _ => .a (.d p)) p
def P4.succ (p : P4) : P4 := P4.rec (motive := fun _ => P4) (.a .h) (fun p _ => .b p) (fun p _ => .c p) (fun p _ => .d p) (fun _ s => s.fa) p
def P4.fs {β : Type} (p : P4) (k : P4 → β) : β := P4.rec (motive := fun _ => (P4 → β) → β) (fun k => k .h) (fun p _ k => k (.a p)) (fun p _ k => k (.b p)) (fun p _ k => k (.c p)) (fun p _ k => k (.d p)) p k
def pth (n : Nat) : P4 := Nat.rec (motive := fun _ => P4) .h (fun _ p => p.succ) n
def P4.eq (p : P4) : P4 → Bool := P4.rec (motive := fun _ => P4 → Bool)
  (fun q => P4.rec (motive := fun _ => Bool) true (fun _ _ => false) (fun _ _ => false) (fun _ _ => false) (fun _ _ => false) q)
  (fun _ e q => P4.rec (motive := fun _ => (P4 → Bool) → Bool) (fun _ => false) (fun q _ e => e q) (fun _ _ _ => false) (fun _ _ _ => false) (fun _ _ _ => false) q e)
  (fun _ e q => P4.rec (motive := fun _ => (P4 → Bool) → Bool) (fun _ => false) (fun _ _ _ => false) (fun q _ e => e q) (fun _ _ _ => false) (fun _ _ _ => false) q e)
  (fun _ e q => P4.rec (motive := fun _ => (P4 → Bool) → Bool) (fun _ => false) (fun _ _ _ => false) (fun _ _ _ => false) (fun q _ e => e q) (fun _ _ _ => false) q e)
  (fun _ e q => P4.rec (motive := fun _ => (P4 → Bool) → Bool) (fun _ => false) (fun _ _ _ => false) (fun _ _ _ => false) (fun _ _ _ => false) (fun q _ e => e q) q e) p

section
variable {α : Type}
def T.v (t : T α) : Option α := T.rec (motive := fun _ => Option α) none (fun v _ _ _ _ _ _ _ _ => v) t
def T.ka (t : T α) : T α := T.rec (motive := fun _ => T α) .l (fun _ a _ _ _ _ _ _ _ => a) t
def T.kb (t : T α) : T α := T.rec (motive := fun _ => T α) .l (fun _ _ b _ _ _ _ _ _ => b) t
def T.kc (t : T α) : T α := T.rec (motive := fun _ => T α) .l (fun _ _ _ c _ _ _ _ _ => c) t
def T.kd (t : T α) : T α := T.rec (motive := fun _ => T α) .l (fun _ _ _ _ d _ _ _ _ => d) t
def T.get (p : P4) : T α → Option α := P4.rec (motive := fun _ => T α → Option α) T.v (fun _ g t => g t.ka) (fun _ g t => g t.kb) (fun _ g t => g t.kc) (fun _ g t => g t.kd) p
variable {β : Type}
def T.sv (t : T α) : α → (T α → β) → β := T.rec (motive := fun _ => α → (T α → β) → β) (fun x k => k (.n (some x) .l .l .l .l)) (fun _ a b c d _ _ _ _ x k => k (.n (some x) a b c d)) t
def T.sa (t : T α) : (T α → α → (T α → β) → β) → α → (T α → β) → β := T.rec (motive := fun _ => (T α → α → (T α → β) → β) → α → (T α → β) → β) (fun s x k => s .l x fun a => k (.n none a .l .l .l)) (fun v a b c d _ _ _ _ s x k => s a x fun a => k (.n v a b c d)) t
def T.sb (t : T α) : (T α → α → (T α → β) → β) → α → (T α → β) → β := T.rec (motive := fun _ => (T α → α → (T α → β) → β) → α → (T α → β) → β) (fun s x k => s .l x fun b => k (.n none .l b .l .l)) (fun v a b c d _ _ _ _ s x k => s b x fun b => k (.n v a b c d)) t
def T.sc (t : T α) : (T α → α → (T α → β) → β) → α → (T α → β) → β := T.rec (motive := fun _ => (T α → α → (T α → β) → β) → α → (T α → β) → β) (fun s x k => s .l x fun c => k (.n none .l .l c .l)) (fun v a b c d _ _ _ _ s x k => s c x fun c => k (.n v a b c d)) t
def T.sd (t : T α) : (T α → α → (T α → β) → β) → α → (T α → β) → β := T.rec (motive := fun _ => (T α → α → (T α → β) → β) → α → (T α → β) → β) (fun s x k => s .l x fun d => k (.n none .l .l .l d)) (fun v a b c d _ _ _ _ s x k => s d x fun d => k (.n v a b c d)) t
/-- A place is set; what comes of it is handed on. -/
def T.setK (p : P4) : T α → α → (T α → β) → β := P4.rec (motive := fun _ => T α → α → (T α → β) → β) T.sv (fun _ s t x k => t.sa s x k) (fun _ s t x k => t.sb s x k) (fun _ s t x k => t.sc s x k) (fun _ s t x k => t.sd s x k) p
end
end

/-! ### Values -/
/-- What one cell holds: whole numbers as their two's complement, addresses by the machine's own blocks. A slice: its block, its place, its length; whether its capacity is known, and then that, else the cells of an element. -/
inductive A where
  | i (k : IntKind) (n : Nat)
  | b (x : Bool)
  | s (l : List Nat)
  | p0
  | p (b : P4) (o : Nat)
  | q0
  | q (b : P4) (o n : Nat) (kn : Bool) (c : Nat)
  | f0
  | f (id : Nat) (x y : List (P4 × Nat))
  | m0
  | n0
/-- Rows of cells: the length of the left part, the whole length. -/
inductive R where
  | e
  | c (a : A)
  | n (ls sz : Nat) (l r : R)
inductive V where
  | c (a : A)
  | g (r : R)
  | un
  | k (v w : V)
inductive Blk where
  | mk (r : R) (tok ro : Bool)
inductive W where
  | mk (m : T Blk) (x : P4)
/-- What an operation comes to. -/
inductive Rs where
  | no
  | ok (v : V) (w : W)
/-- Types: whether a value has parts, its cells, its zero; the form; of what is compared cell by cell their kinds (none: truth values). -/
inductive Kd where
  | st (l : List (Nat × Nat))
  | ar (n e : Nat)
  | sl (e : Nat)
  | nt (k : IntKind)
  | sg
  | pt
  | ot
inductive Ti where
  | mk (ag : Bool) (sz : Nat) (z : R) (k : Kd) (c : List (Option IntKind))

noncomputable section
section
variable {α : Type}
def ob {β : Type} (o : Option α) (f : α → Option β) : Option β := Option.rec (motive := fun _ => Option β) none (fun x => f x) o
def oR (o : Option α) (f : α → Rs) : Rs := Option.rec (motive := fun _ => Rs) .no (fun x => f x) o
def ite' {β : Type} (c : Bool) (x y : β) : β := Bool.rec (motive := fun _ => β) y x c
end
def A.nI {α : Type} (a : A) (f : IntKind → Nat → α) (z : α) : α := A.rec (motive := fun _ => (IntKind → Nat → α) → α → α) (fun k n f _ => f k n) (fun _ _ z => z) (fun _ _ z => z) (fun _ z => z) (fun _ _ _ z => z) (fun _ z => z) (fun _ _ _ _ _ _ z => z) (fun _ z => z) (fun _ _ _ _ z => z) (fun _ z => z) (fun _ z => z) a f z
def A.nB {α : Type} (a : A) (f : Bool → α) (z : α) : α := A.rec (motive := fun _ => (Bool → α) → α → α) (fun _ _ _ z => z) (fun x f _ => f x) (fun _ _ z => z) (fun _ z => z) (fun _ _ _ z => z) (fun _ z => z) (fun _ _ _ _ _ _ z => z) (fun _ z => z) (fun _ _ _ _ z => z) (fun _ z => z) (fun _ z => z) a f z
def A.nP {α : Type} (a : A) (f : P4 → Nat → α) (z : α) : α := A.rec (motive := fun _ => (P4 → Nat → α) → α → α) (fun _ _ _ z => z) (fun _ _ z => z) (fun _ _ z => z) (fun _ z => z) (fun b o f _ => f b o) (fun _ z => z) (fun _ _ _ _ _ _ z => z) (fun _ z => z) (fun _ _ _ _ z => z) (fun _ z => z) (fun _ z => z) a f z
/-- Slices: nil, or not. -/
def A.nQ {α : Type} (a : A) (g : α) (f : P4 → Nat → Nat → Bool → Nat → α) (z : α) : α := A.rec (motive := fun _ => α → (P4 → Nat → Nat → Bool → Nat → α) → α → α) (fun _ _ _ _ z => z) (fun _ _ _ z => z) (fun _ _ _ z => z) (fun _ _ z => z) (fun _ _ _ _ z => z) (fun g _ _ => g) (fun b o n k c _ f _ => f b o n k c) (fun _ _ z => z) (fun _ _ _ _ _ z => z) (fun _ _ z => z) (fun _ _ z => z) a g f z
def A.nF {α : Type} (a : A) (f : Nat → List (P4 × Nat) → List (P4 × Nat) → α) (z : α) : α := A.rec (motive := fun _ => (Nat → List (P4 × Nat) → List (P4 × Nat) → α) → α → α) (fun _ _ _ z => z) (fun _ _ z => z) (fun _ _ z => z) (fun _ z => z) (fun _ _ _ z => z) (fun _ z => z) (fun _ _ _ _ _ _ z => z) (fun _ z => z) (fun i x y f _ => f i x y) (fun _ z => z) (fun _ z => z) a f z
def V.nC {α : Type} (v : V) (f : A → α) (z : α) : α := V.rec (motive := fun _ => (A → α) → α → α) (fun a f _ => f a) (fun _ _ z => z) (fun _ z => z) (fun _ _ _ _ _ z => z) v f z
def V.nG {α : Type} (v : V) (f : R → α) (z : α) : α := V.rec (motive := fun _ => (R → α) → α → α) (fun _ _ z => z) (fun r f _ => f r) (fun _ z => z) (fun _ _ _ _ _ z => z) v f z
/-- A value as a row of cells. -/
def V.row (v : V) : Option R := V.rec (motive := fun _ => Option R) (fun a => some (.c a)) (fun r => some r) none (fun _ _ _ _ => none) v

def Kd.el {α : Type} (k : Kd) (f : List (Nat × Nat) → Option α) (g : Nat → Nat → Option α) (h : Nat → Option α) : Option α := Kd.rec (motive := fun _ => Option α) (fun l => f l) (fun n e => g n e) (fun e => h e) (fun _ => none) none none none k

/-! ### Rows -/
def R.size (r : R) : Nat := R.rec (motive := fun _ => Nat) 0 (fun _ => 1) (fun _ sz _ _ _ _ => sz) r
/-- Two rows, one behind the other; neither is empty. -/
def R.cons {β : Type} (l r : R) (k : R → β) : β := fN l.size fun a => fN (Nat.add a r.size) fun b => k (.n a b l r)
def R.join {β : Type} (l r : R) (k : R → β) : β := ite' (Nat.beq l.size 0) (k r) (ite' (Nat.beq r.size 0) (k l) (l.cons r k))
def R.get (r : R) : Nat → Option A := R.rec (motive := fun _ => Nat → Option A) (fun _ => none) (fun a o => ite' (Nat.beq o 0) (some a) none)
  (fun ls _ _ _ gl gr o => ite' (Nat.ble ls o) (gr (Nat.sub o ls)) (gl o)) r
def sub3 (ls o n : Nat) (gl gr : Nat → Nat → Option R) : Option R := ob (gl o (Nat.sub ls o)) fun x => ob (gr 0 (Nat.sub (Nat.add o n) ls)) fun y => x.cons y some
def sub2 (ls o n : Nat) (gl gr : Nat → Nat → Option R) : Option R := ite' (Nat.ble ls o) (gr (Nat.sub o ls) n) (ite' (Nat.ble (Nat.add o n) ls) (gl o n) (sub3 ls o n gl gr))
/-- A part of a row that is not empty. -/
def R.sub (r : R) : Nat → Nat → Option R := R.rec (motive := fun _ => Nat → Nat → Option R) (fun _ _ => none) (fun a o n => ite' (Nat.beq o 0) (ite' (Nat.beq n 1) (some (.c a)) none) none)
  (fun ls sz l r gl gr o n => ite' (Nat.beq n sz) (ite' (Nat.beq o 0) (some (.n ls sz l r)) none) (sub2 ls o n gl gr)) r
def R.set (r : R) : Nat → A → Option R := R.rec (motive := fun _ => Nat → A → Option R) (fun _ _ => none) (fun _ o x => ite' (Nat.beq o 0) (some (.c x)) none)
  (fun ls sz l r gl gr o x => ite' (Nat.ble ls o) (ob (gr (Nat.sub o ls) x) fun y => some (.n ls sz l y)) (ob (gl o x) fun y => some (.n ls sz y r))) r
def put3 (ls sz o n : Nat) (x : R) (gl gr : Nat → Nat → R → Option R) : Option R := ob (x.sub 0 (Nat.sub ls o)) fun x1 => ob (x.sub (Nat.sub ls o) (Nat.sub (Nat.add o n) ls)) fun x2 => ob (gl o (Nat.sub ls o) x1) fun y => ob (gr 0 (Nat.sub (Nat.add o n) ls) x2) fun z => some (.n ls sz y z)
def put2 (ls sz : Nat) (l r : R) (o n : Nat) (x : R) (gl gr : Nat → Nat → R → Option R) : Option R :=
  ite' (Nat.ble ls o) (ob (gr (Nat.sub o ls) n x) fun y => some (.n ls sz l y)) (ite' (Nat.ble (Nat.add o n) ls) (ob (gl o n x) fun y => some (.n ls sz y r)) (put3 ls sz o n x gl gr))
/-- A part is put anew: n cells (at least one), which are x. -/
def R.put (r : R) : Nat → Nat → R → Option R := R.rec (motive := fun _ => Nat → Nat → R → Option R) (fun _ _ _ => none) (fun _ o n x => ite' (Nat.beq o 0) (ite' (Nat.beq n 1) (some x) none) none)
  (fun ls sz l r gl gr o n x => ite' (Nat.beq n sz) (ite' (Nat.beq o 0) (some x) none) (put2 ls sz l r o n x gl gr)) r
/-- n rows, each z; of m cells. -/
def repK {β : Type} (z : R) (_ f : Nat) : Nat → (R → β) → β := Nat.rec (motive := fun _ => Nat → (R → β) → β) (fun _ k => k .e) (fun _ go n k => ite' (Nat.beq n 0) (k .e) (ite' (Nat.beq n 1) (k z)
  (fN (Nat.div n 2) fun h => go h fun l => ite' (Nat.beq (Nat.mod n 2) 0) (l.cons l k) (l.cons z fun l' => l'.cons l k)))) f
/-- The cells from the left. -/
def R.list (r : R) : List A → List A := R.rec (motive := fun _ => List A → List A) (fun l => l) (fun a l => a :: l) (fun _ _ _ _ gl gr l => gl (gr l)) r
/-- A row of a list of rows, balanced by the eye: as it comes. -/
def R.cat {β : Type} (l : List R) : (R → β) → β := List.rec (motive := fun _ => (R → β) → β) (fun k => k .e) (fun r _ s k => s fun t => r.join t k) l

/-! ### Memory -/
def W.m (w : W) : T Blk := W.rec (motive := fun _ => T Blk) (fun m _ => m) w
def W.blk {α : Type} (w : W) (b : P4) (f : R → Bool → Bool → Option α) : Option α := ob (T.get b w.m) fun k => Blk.rec (motive := fun _ => Option α) (fun r t o => f r t o) k
def W.put {β : Type} (w : W) (b : P4) (k : Blk) (f : W → β) : β := W.rec (motive := fun _ => β) (fun m x => T.setK b m k fun m => f (.mk m x)) w
def W.new {β : Type} (w : W) (r : R) (f : P4 → W → β) : β := W.rec (motive := fun _ => β) (fun m x => T.setK x m (.mk r true false) fun m => x.succ.fs fun y => f x (.mk m y)) w
def V.addr {α : Type} (v : V) (f : P4 → Nat → Option α) : Option α := v.nC (fun a => a.nP f none) none
def W.ld1 (w : W) (v : V) : Option V := v.addr fun b o => w.blk b fun r _ _ => ob (r.get o) fun a => some (.c a)
def W.ldn (w : W) (v : V) (n : Nat) : Option V := v.addr fun b o => w.blk b fun r _ _ => ob (r.sub o n) fun x => some (.g x)
def W.st1 (w : W) (v : V) (x : A) : Option W := v.addr fun b o => w.blk b fun r t ro => ite' ro none (ob (r.set o x) fun y => w.put b (.mk y t ro) some)
def W.stn (w : W) (v : V) (n : Nat) (x : R) : Option W := v.addr fun b o => w.blk b fun r t ro => ite' ro none (ite' (Nat.beq x.size n) (ob (r.put o n x) fun y => w.put b (.mk y t ro) some) none)
/-- The cells of a part, which may be empty. -/
def W.part (w : W) (b : P4) (o n : Nat) : Option R := ite' (Nat.beq n 0) (some .e) (w.blk b fun r _ _ => r.sub o n)

/-! ### Whole numbers -/
def md (k : IntKind) : Nat := IntKind.rec (motive := fun _ => Nat) 256 65536 4294967296 18446744073709551616 256 65536 4294967296 18446744073709551616 k
def hf (k : IntKind) : Nat := IntKind.rec (motive := fun _ => Nat) 128 32768 2147483648 9223372036854775808 128 32768 2147483648 9223372036854775808 k
def sg (k : IntKind) : Bool := IntKind.rec (motive := fun _ => Bool) true true true true false false false false k
def bts (k : IntKind) : Nat := IntKind.rec (motive := fun _ => Nat) 8 16 32 64 8 16 32 64 k
/-- Numbers that keep the order. -/
def ord (k : IntKind) (a : Nat) : Nat := ite' (sg k) (Nat.mod (Nat.add a (hf k)) (md k)) a
/-- Not below 0. -/
def nng (k : IntKind) (a : Nat) : Bool := ite' (sg k) (Nat.ble (Nat.succ a) (hf k)) true
def conv (j k : IntKind) (a : Nat) : Nat := ite' (nng j a) (Nat.mod a (md k)) (Nat.mod (Nat.add a (Nat.sub 18446744073709551616 (md j))) (md k))
def iK (k : IntKind) (n : Nat) : Option A := fN n fun n => some (.i k n)
def bK (x : Bool) : Option A := fB x fun x => some (.b x)
def ofI (k : IntKind) (x : Int) : Option A := Int.rec (motive := fun _ => Option A) (fun n => ite' (Nat.ble (Nat.succ n) (ite' (sg k) (hf k) (md k))) (some (.i k n)) none) (fun n => ite' (sg k) (ite' (Nat.ble (Nat.succ n) (hf k)) (iK k (Nat.sub (md k) (Nat.succ n))) none) none) x
/-- Kinds agree, but for shifts. -/
def ikd (k : IntKind) : Nat := IntKind.rec (motive := fun _ => Nat) 0 1 2 3 4 5 6 7 k

def sm (k k2 : IntKind) (o : Option A) : Option A := ite' (Nat.beq (ikd k) (ikd k2)) o none
def bint (op : BinOp) (k : IntKind) (a : Nat) (k2 : IntKind) (b : Nat) : Option A := BinOp.rec (motive := fun _ => IntKind → Nat → IntKind → Nat → Option A)
  (fun k a k2 b => sm k k2 (iK k (Nat.mod (Nat.add a b) (md k))))
  (fun k a k2 b => sm k k2 (iK k (Nat.mod (Nat.add a (Nat.sub (md k) b)) (md k))))
  (fun k a k2 b => sm k k2 (iK k (Nat.mod (Nat.mul a b) (md k))))
  (fun k a k2 b => sm k k2 (ite' (Nat.beq b 0) none (ite' (nng k a) (ite' (nng k b) (iK k (Nat.div a b)) none) none)))
  (fun k a k2 b => sm k k2 (ite' (Nat.beq b 0) none (ite' (nng k a) (ite' (nng k b) (iK k (Nat.mod a b)) none) none)))
  (fun k a k2 b => sm k k2 (iK k (Nat.land a b)))
  (fun k a k2 b => sm k k2 (iK k (Nat.lor a b)))
  (fun k a k2 b => sm k k2 (iK k (Nat.xor a b)))
  (fun k a k2 b => ite' (nng k2 b) (ite' (Nat.ble (bts k) b) (iK k 0) (iK k (Nat.mod (Nat.shiftLeft a b) (md k)))) none)
  (fun k a k2 b => ite' (nng k2 b) (ite' (nng k a) (ite' (Nat.ble (bts k) b) (iK k 0) (iK k (Nat.shiftRight a b))) none) none)
  (fun k a k2 b => sm k k2 (iK k (Nat.land a (Nat.sub (Nat.sub (md k) 1) b))))
  (fun k a k2 b => sm k k2 (bK (Nat.beq a b)))
  (fun k a k2 b => sm k k2 (bK (ite' (Nat.beq a b) false true)))
  (fun k a k2 b => sm k k2 (bK (Nat.ble (Nat.succ (ord k a)) (ord k b))))
  (fun k a k2 b => sm k k2 (bK (Nat.ble (ord k a) (ord k b))))
  (fun k a k2 b => sm k k2 (bK (Nat.ble (Nat.succ (ord k b)) (ord k a))))
  (fun k a k2 b => sm k k2 (bK (Nat.ble (ord k b) (ord k a)))) op k a k2 b
/-! ### Comparing -/
def eqB (x y : Bool) : Bool := ite' x y (ite' y false true)
/-- Slices, addresses: one of them has to be nil. -/
def nilQ (x y : A) : Option Bool := x.nQ (y.nQ (some true) (fun _ _ _ _ _ => some false) none) (fun _ _ _ _ _ => y.nQ (some false) (fun _ _ _ _ _ => none) none) none
def is0 (x : A) : Option Bool := A.rec (motive := fun _ => Option Bool) (fun _ _ => none) (fun _ => none) (fun _ => none) (some true) (fun _ _ => some false) none (fun _ _ _ _ _ => none) none (fun _ _ _ => none) none none x
def nilP (x y : A) : Option Bool := ob (is0 x) fun a => ob (is0 y) fun b => ite' a (some b) (ite' b (some false) none)
/-- Two lists of cells, whose kinds are told. -/
def eqK (l : List (Option IntKind)) : List A → List A → Option Bool := List.rec (motive := fun _ => List A → List A → Option Bool) (fun _ _ => some true)
  (fun k _ go xs ys => List.rec (motive := fun _ => Option Bool) none (fun x xs _ => List.rec (motive := fun _ => Option Bool) none (fun y ys _ =>
    Option.rec (motive := fun _ => Option Bool) (x.nB (fun a => y.nB (fun b => ite' (eqB a b) (go xs ys) (ob (go xs ys) fun _ => some false)) none) none)
      (fun k => x.nI (fun k1 n => y.nI (fun k2 m => ite' (Nat.beq (ikd k1) (ikd k)) (ite' (Nat.beq (ikd k2) (ikd k)) (ite' (Nat.beq n m) (go xs ys) (ob (go xs ys) fun _ => some false)) none) none) none) none) k) ys) xs) l
def uop (op : UnOp) (x : V) : Option A := UnOp.rec (motive := fun _ => V → Option A)
  (fun x => x.nC (fun a => a.nI (fun k n => iK k (Nat.mod (Nat.sub (md k) n) (md k))) none) none)
  (fun x => x.nC (fun a => a.nI (fun k n => iK k (Nat.sub (Nat.sub (md k) 1) n)) none) none)
  (fun x => x.nC (fun a => a.nB (fun b => bK (ite' b false true)) none) none) (fun _ => none) op x
end
end I
end Go.Proofs.YtladkmnfmpojiaaGreatDoor
namespace Go.Proofs.YtladkmnfmpojiaaGreatDoor
namespace I
noncomputable section

/-! ### Operands -/
/-- A constant of the program. -/
def cvA (v : Value) : Option A := Value.rec (motive_1 := fun _ => Option A) (motive_2 := fun _ => Unit) (motive_3 := fun _ => Unit)
  (fun b => some (.b b)) (fun k n => ofI k n) (fun _ _ => none) (fun _ _ _ => none) (fun s => some (.s (s.data.toList.map UInt8.toNat)))
  (fun a => Option.rec (motive := fun _ => Option A) (some .p0) (fun _ => none) a) (fun a n c => Option.rec (motive := fun _ => Option A) (ite' (Nat.beq n 0) (ite' (Nat.beq c 0) (some .q0) none) none) (fun _ => none) a)
  (fun r => Option.rec (motive := fun _ => Option A) (some .m0) (fun _ => none) r) (fun _ => none) (fun _ _ _ _ _ => none) (some .f0) (fun _ _ _ => none) (some .n0) (fun _ _ => none) (fun _ _ => none)
  (fun _ _ => ()) () (fun _ _ _ _ => ()) v
def cvL (l : List Value) : Option (List R) := List.rec (motive := fun _ => Option (List R)) (some []) (fun v _ s => ob (cvA v) fun a => ob s fun s => some (.c a :: s)) l
def cv (v : Value) : Option V := Value.rec (motive_1 := fun _ => Option A → Option V) (motive_2 := fun _ => Unit) (motive_3 := fun _ => Unit)
  (fun _ o => ob o fun a => some (.c a)) (fun _ _ o => ob o fun a => some (.c a)) (fun _ _ o => ob o fun a => some (.c a)) (fun _ _ _ o => ob o fun a => some (.c a)) (fun _ o => ob o fun a => some (.c a))
  (fun _ o => ob o fun a => some (.c a)) (fun _ _ _ o => ob o fun a => some (.c a)) (fun _ o => ob o fun a => some (.c a)) (fun _ o => ob o fun a => some (.c a)) (fun _ _ _ _ _ o => ob o fun a => some (.c a)) (fun o => ob o fun a => some (.c a)) (fun _ _ _ o => ob o fun a => some (.c a)) (fun o => ob o fun a => some (.c a))
  (fun cs _ _ => ob (cvL cs.toList) fun l => R.cat l fun r => some (.g r)) (fun vs _ _ => List.rec (motive := fun _ => Option V) (some .un) (fun _ _ _ => none) vs.toList)
  (fun _ _ => ()) () (fun _ _ _ _ => ()) v (cvA v)
/-- The program's variables. -/
def ng : Nat := 3
def ev (f : T V) (x : Operand) : Option V := Operand.rec (motive := fun _ => T V → Option V) (fun t f => T.get (pth t) f) (fun v _ => cv v) (fun g _ => ite' (Nat.ble (Nat.succ g) ng) (some (.c (.p (pth g) 0))) none) (fun i _ => some (.c (.f i [] []))) x f
def evL (f : T V) (l : List Operand) : Option (List V) := List.rec (motive := fun _ => T V → Option (List V)) (fun _ => some []) (fun x _ go f => ob (ev f x) fun v => ob (go f) fun vs => some (v :: vs)) l f

/-! ### Types -/
structure Env where
  tt : T Ti
def ti {α : Type} (tt : T Ti) (t : TypeId) (f : Bool → Nat → R → Kd → Option α) : Option α := ob (T.get (pth t) tt) fun i => Ti.rec (motive := fun _ => Option α) (fun ag sz z k _ => f ag sz z k) i
def nth {α : Type} (l : List α) (n : Nat) : Option α := List.rec (motive := fun _ => Nat → Option α) (fun _ => none) (fun x _ go n => Nat.rec (motive := fun _ => Option α) (some x) (fun m _ => go m) n) l n
def tc (tt : T Ti) (t : TypeId) : Option (List (Option IntKind)) := ob (T.get (pth t) tt) fun i => Ti.rec (motive := fun _ => Option (List (Option IntKind))) (fun _ _ _ _ c => List.rec (motive := fun _ => Option (List (Option IntKind))) none (fun x l _ => some (x :: l)) c) i
/-- A field: its place and its type. -/
def fld {α : Type} (tt : T Ti) (t : TypeId) (i : Nat) (f : Nat → TypeId → Option α) : Option α := ti tt t fun _ _ _ k => k.el (fun l => ob (nth l i) fun p => Prod.rec (motive := fun _ => Option α) (fun o t => f o t) p) (fun _ _ => none) (fun _ => none)
def elm {α : Type} (tt : T Ti) (t : TypeId) (f : TypeId → Option α) : Option α := ti tt t fun _ _ _ k => k.el (fun _ => none) (fun _ _ => none) (fun e => f e)
/-- A value out of a row's part. -/
def out (ag : Bool) (r : R) (o n : Nat) : Option V := ite' ag (ob (r.sub o n) fun x => some (.g x)) (ob (r.get o) fun a => some (.c a))

/-! ### Operations -/
abbrev Op1 := T Ti → TypeId → T V → W → Rs
def rv (w : W) (o : Option V) : Rs := oR o fun v => .ok v w
def rA (w : W) (o : Option A) : Rs := oR o fun a => .ok (.c a) w
def rW (o : Option W) : Rs := oR o fun w => .ok .un w
def oNo : Op1 := fun _ _ _ _ => .no
def oMove (x : Operand) : Op1 := fun _ _ f w => rv w (ev f x)
def oPick (c a b : Operand) : Op1 := fun _ _ f w => rv w (ob (ev f c) fun v => v.nC (fun x => x.nB (fun y => ite' y (ev f a) (ev f b)) none) none)
def rNew (w : W) (r : R) : Rs := w.new r fun b w => .ok (.c (.p b 0)) w
def oAlloc (e : TypeId) : Op1 := fun tt _ _ w => oR (ti tt e fun _ _ z _ => some z) fun z => rNew w z
def oBox (_ : TypeId) (x : Operand) : Op1 := fun _ _ f w => oR (ob (ev f x) V.row) fun r => rNew w r
/-- Parts, laid into a row. -/
def lay (f : T V) (g : Nat → (Nat → Nat → Option R) → Option R) (l : List (Nat × Operand)) (z : R) : Option R := List.rec (motive := fun _ => R → Option R) (fun z => some z)
  (fun p _ go z => Prod.rec (motive := fun _ => Option R) (fun i x => ob (ob (ev f x) V.row) fun r => ob (g i fun o n => ite' (Nat.beq r.size n) (z.put o n r) none) go) p) l z
def oBuild (t : TypeId) (ps : Array (Nat × Operand)) : Op1 := fun tt _ f w => oR (ti tt t fun _ _ z k => k.el (fun l => lay f (fun i h => ob (nth l i) fun p => Prod.rec (motive := fun _ => Option R) (fun o t => ti tt t fun _ n _ _ => h o n) p) ps.toList z) (fun m e => ti tt e fun _ n _ _ => lay f (fun i h => ite' (Nat.ble (Nat.succ i) m) (h (Nat.mul i n) n) none) ps.toList z) (fun _ => none)) fun r => .ok (.g r) w
def oBSlice (t : TypeId) (len : Nat) (ps : Array (Nat × Operand)) : Op1 := fun tt _ f w => oR (elm tt t fun e => ti tt e fun _ n z _ => repK z n 64 len fun z => lay f (fun i h => ite' (Nat.ble (Nat.succ i) len) (h (Nat.mul i n) n) none) ps.toList z) fun r =>
  w.new r fun b w => .ok (.c (.q b 0 len true len)) w
def oLoad (t : TypeId) (x : Operand) : Op1 := fun tt _ f w => rv w (ob (ev f x) fun a => ti tt t fun ag n _ _ => ite' ag (w.ldn a n) (w.ld1 a))
def oStore (t : TypeId) (x y : Operand) : Op1 := fun tt _ f w => rW (ob (ev f x) fun a => ob (ev f y) fun v => ti tt t fun _ n _ _ => V.rec (motive := fun _ => Option W) (fun c => ite' (Nat.beq n 1) (w.st1 a c) none) (fun r => w.stn a n r) none (fun _ _ _ _ => none) v)
def oNil (x : Operand) : Op1 := fun _ _ f w => rv w (ob (ev f x) fun v => v.nC (fun a => A.rec (motive := fun _ => Option V) (fun _ _ => none) (fun _ => none) (fun _ => none) none (fun _ _ => some v) none (fun _ _ _ _ _ => none) none (fun _ _ _ => some v) none none a) none)
def bopV (op : BinOp) (e : Bool) : Option A := BinOp.rec (motive := fun _ => Bool → Option A) (fun _ => none) (fun _ => none) (fun _ => none) (fun _ => none) (fun _ => none) (fun _ => none) (fun _ => none) (fun _ => none) (fun _ => none) (fun _ => none) (fun _ => none)
  (fun e => bK e) (fun e => bK (ite' e false true)) (fun _ => none) (fun _ => none) (fun _ => none) (fun _ => none) op e
def eqA (k : Kd) (a b : A) : Option Bool := Kd.rec (motive := fun _ => Option Bool) (fun _ => none) (fun _ _ => none) (fun _ => nilQ a b) (fun _ => none) none (nilP a b) none k
def eqV (tt : T Ti) (t : TypeId) (x y : V) : Option Bool := x.nC (fun a => y.nC (fun b => ti tt t fun _ _ _ k => eqA k a b) none)
  (x.nG (fun r => y.nG (fun s => ob (tc tt t) fun c => ite' (Nat.beq r.size c.length) (ite' (Nat.beq s.size c.length) (eqK c (r.list []) (s.list [])) none) none) none) none)
def bop (tt : T Ti) (op : BinOp) (t : TypeId) (x y : V) : Option A := x.nC (fun a => a.nI (fun k n => y.nC (fun b => b.nI (fun k2 m => bint op k n k2 m) none) none) (ob (eqV tt t x y) fun e => bopV op e)) (ob (eqV tt t x y) fun e => bopV op e)
def oBin (op : BinOp) (t : TypeId) (x y : Operand) (_ : TypeId) : Op1 := fun tt _ f w => rA w (ob (ev f x) fun a => ob (ev f y) fun b => bop tt op t a b)
def oUn (op : UnOp) (_ : TypeId) (x : Operand) : Op1 := fun _ _ f w => rA w (ob (ev f x) fun a => uop op a)
def Kd.int (k : Kd) (f : IntKind → Rs) (g : Rs) : Rs := Kd.rec (motive := fun _ => Rs) (fun _ => g) (fun _ _ => g) (fun _ => g) (fun k => f k) g g g k
def bytesR (l : List Nat) : List R := List.rec (motive := fun _ => List R) [] (fun n _ s => .c (.i .u8 n) :: s) l
/-- A count that room is made for. -/
def lim (n : Nat) : Bool := Nat.ble n 1000000
/-- A string's bytes, as a new row. -/
def s2b (tt : T Ti) (w : W) (l : List Nat) (k : Kd) : Rs := oR (k.el (fun _ => none) (fun _ _ => none) (fun e => ti tt e fun _ _ _ k => Kd.rec (motive := fun _ => Option Unit) (fun _ => none) (fun _ _ => none) (fun _ => none) (fun j => ite' (Nat.beq (ikd j) 4) (some ()) none) none none none k)) fun _ =>
  ite' (lim l.length) (R.cat (bytesR l) fun r => w.new r fun b w => fN l.length fun n => .ok (.c (.q b 0 n false 1)) w) .no
def A.nS {α : Type} (a : A) (f : List Nat → α) (z : α) : α := A.rec (motive := fun _ => (List Nat → α) → α → α) (fun _ _ _ z => z) (fun _ _ z => z) (fun l f _ => f l) (fun _ z => z) (fun _ _ _ z => z) (fun _ z => z) (fun _ _ _ _ _ _ z => z) (fun _ z => z) (fun _ _ _ _ z => z) (fun _ z => z) (fun _ z => z) a f z
def oConv (src dst : TypeId) (x : Operand) : Op1 := fun tt _ f w => oR (ti tt src fun _ _ _ _ => some ()) fun _ => oR (ev f x) fun v => v.nC (fun a => oR (ti tt dst fun _ _ _ k => some k) fun k =>
  a.nI (fun j n => k.int (fun k => fN (conv j k n) fun m => .ok (.c (.i k m)) w) .no) (a.nS (fun l => s2b tt w l k) .no)) .no
def addrs (f : T V) (l : List Operand) : Option (List (P4 × Nat)) := List.rec (motive := fun _ => Option (List (P4 × Nat))) (some []) (fun x _ s => ob (ev f x) fun v => v.addr fun b o => ob s fun s => some ((b, o) :: s)) l
def oMkF (fn : Fn) (x y : Array Operand) : Op1 := fun _ _ f w => rA w (Fn.rec (motive := fun _ => Option A) (fun i => ob (addrs f x.toList) fun x => ob (addrs f y.toList) fun y => some (.f i x y)) (fun _ => none) (fun _ _ => none) (fun _ _ _ _ => none) (fun _ => none) fn)
def V.nat {α : Type} (v : V) (f : Nat → Option α) : Option α := v.nC (fun a => a.nI (fun k n => ite' (nng k n) (f n) none) none) none
def oMkS (t : TypeId) (x y : Operand) : Op1 := fun tt _ f w => oR (ob (ev f x) fun v => v.nat fun n => some n) fun n => oR (ob (ev f y) fun v => v.nat fun n => some n) fun c => ite' (Nat.ble n c) (ite' (lim c) (oR (elm tt t fun e => ti tt e fun _ m z _ => repK z m 64 c some) fun r =>
  w.new r fun b w => .ok (.c (.q b 0 n true c)) w) .no) .no
def opt (f : T V) (x : Option Operand) (d : Nat) : Option Nat := Option.rec (motive := fun _ => T V → Nat → Option Nat) (fun _ d => some d) (fun x f _ => ob (ev f x) fun v => v.nat fun n => some n) x f d
/-- A part of a slice: mx is what its end may not pass. -/
def cutQ (b : P4) (o sz lo hi : Nat) (kn : Bool) (c mx : Nat) : Option V := ite' (Nat.ble lo hi) (ite' (Nat.ble hi mx) (fN (Nat.sub hi lo) fun n => ite' kn
  (fN (Nat.sub mx lo) fun c => fN (ite' (Nat.beq c 0) o (Nat.add o (Nat.mul lo sz))) fun o => some (.c (.q b o n true c)))
  (fN (Nat.add o (Nat.mul lo sz)) fun o => some (.c (.q b o n false c)))) none) none
def oSlice (t : TypeId) (x : Operand) (lo hi mx : Option Operand) : Op1 := fun tt _ f w => rv w (ob (opt f lo 0) fun l => ob (ev f x) fun v => v.nC (fun a => elm tt t fun e => ti tt e fun _ sz _ _ => a.nQ
  (ite' (Nat.beq l 0) (ob (opt f hi 0) fun h => ite' (Nat.beq h 0) (ob (opt f mx 0) fun m => ite' (Nat.beq m 0) (some v) none) none) none)
  (fun b o n kn c => ob (opt f hi n) fun h => Option.rec (motive := fun _ => Option V) (ite' (Nat.beq (ite' kn sz c) sz) (cutQ b o sz l h kn c (ite' kn c n)) none) (fun y => ob (ob (ev f y) fun v => v.nat fun n => some n) fun m => ite' (Nat.ble m (ite' kn c n)) (cutQ b o sz l h true m m) none) mx) none) none)
def oFA (t : TypeId) (x : Operand) (i : Nat) : Op1 := fun tt _ f w => rv w (fld tt t i fun o u => ti tt u fun _ sz _ _ => ite' (Nat.beq sz 0) none (ob (ev f x) fun v => v.addr fun b p => fN (Nat.add p o) fun p => some (.c (.p b p))))
def oFld (t : TypeId) (x : Operand) (i : Nat) : Op1 := fun tt _ f w => rv w (fld tt t i fun o u => ti tt u fun ag sz _ _ => ob (ev f x) fun v => v.nG (fun r => out ag r o sz) none)
def oIA (t : TypeId) (x y : Operand) : Op1 := fun tt _ f w => rv w (ob (ev f x) fun v => ob (ev f y) fun j => j.nat fun i => v.nC (fun a => ti tt t fun _ _ _ k => k.el (fun _ => none) (fun n e => ite' (Nat.ble (Nat.succ i) n) (ti tt e fun _ sz _ _ => a.nP (fun b o => fN (Nat.add o (Nat.mul i sz)) fun o => some (.c (.p b o))) none) none) (fun e => ti tt e fun _ sz _ _ => a.nQ none (fun b o n _ _ => ite' (Nat.ble (Nat.succ i) n) (fN (Nat.add o (Nat.mul i sz)) fun o => some (.c (.p b o))) none) none)) none)
def oIx (t : TypeId) (x y : Operand) : Op1 := fun tt _ f w => rv w (ob (ev f x) fun v => ob (ev f y) fun j => j.nat fun i => v.nG (fun r => ti tt t fun _ _ _ k => k.el (fun _ => none) (fun n e => ite' (Nat.ble (Nat.succ i) n) (ti tt e fun ag sz _ _ => out ag r (Nat.mul i sz) sz) none) (fun _ => none)) none)
def V.ext (v : V) : Nat → Option V := V.rec (motive := fun _ => Nat → Option V) (fun _ _ => none) (fun _ _ => none) (fun _ => none) (fun x _ _ go i => Nat.rec (motive := fun _ => Option V) (some x) (fun j _ => go j) i) v
def oExt (x : Operand) (i : Nat) : Op1 := fun _ _ f w => rv w (ob (ev f x) fun v => v.ext i)
def ptrs (l : List (P4 × Nat)) (r : List V) : List V := List.rec (motive := fun _ => List V → List V) (fun r => r) (fun p _ go r => Prod.rec (motive := fun _ => V) (fun b o => .c (.p b o)) p :: go r) l r
def i64 (n : Nat) : V := .c (.i .i64 n)
def one {α β : Type} (l : List α) (f : α → β) (z : β) : β := List.rec (motive := fun _ => β) z (fun x l _ => List.rec (motive := fun _ => β) (f x) (fun _ _ _ => z) l) l
def two {α β : Type} (l : List α) (f : α → α → β) (z : β) : β := List.rec (motive := fun _ => β) z (fun x l _ => one l (f x) z) l
def bLen (tt : T Ti) (ty : List TypeId) (l : List V) (w : W) : Rs := rv w (one ty (fun t => elm tt t fun _ => one l (fun v => v.nC (fun a => a.nQ (some (i64 0)) (fun _ _ n _ _ => some (i64 n)) none) none) none) none)
def mx2 (mx : Bool) (x y : V) : Option V := x.nC (fun a => a.nI (fun k n => y.nC (fun b => b.nI (fun k2 m => ite' (Nat.beq (ikd k) (ikd k2)) (ite' (Nat.ble (Nat.succ (ite' mx (ord k n) (ord k m))) (ite' mx (ord k m) (ord k n))) (some y) (some x)) none) none) none) none) none
def bMx (mx : Bool) (l : List V) (w : W) : Rs := rv w (two l (mx2 mx) none)
/-- What is left of a block whose rest another row has taken: that lay there up to its end. -/
def W.cut (w : W) (b : P4) (o n : Nat) : Option W := w.blk b fun r t ro => ite' t (ite' ro none (ite' (Nat.ble (Nat.add o n) r.size) (ob (ite' (Nat.beq o 0) (some .e) (r.sub 0 o)) fun y => w.put b (.mk y false ro) some) none)) none
def grow (w : W) (r : R) (n sz : Nat) : Rs := ite' (lim (Nat.mul n sz)) (fN n fun n => w.new r fun b w => .ok (.c (.q b 0 n false sz)) w) .no
def appQ (w : W) (sz : Nat) (s : V) (a b : A) : Rs := b.nQ (a.nQ (.ok s w) (fun _ _ _ _ _ => .ok s w) .no) (fun b2 o2 n _ _ => ite' (Nat.beq n 0) (a.nQ (.ok s w) (fun _ _ _ _ _ => .ok s w) .no) (oR (w.part b2 o2 (Nat.mul n sz)) fun y => a.nQ (grow w y n sz) (fun b o m kn c => ite' kn
    (ite' (Nat.ble (Nat.add m n) c) (oR (w.stn (.c (.p b (Nat.add o (Nat.mul m sz)))) (Nat.mul n sz) y) fun w => fN (Nat.add m n) fun n => .ok (.c (.q b o n true c)) w) (oR (w.part b o (Nat.mul m sz)) fun z => z.join y fun z => grow w z (Nat.add m n) sz))
    (ite' (Nat.beq c sz) (oR (w.part b o (Nat.mul m sz)) fun z => oR (w.cut b o (Nat.mul m sz)) fun w => z.join y fun z => grow w z (Nat.add m n) sz) .no)) .no)) .no
def bApp (tt : T Ti) (ty : List TypeId) (l : List V) (w : W) : Rs := two ty (fun t t2 => ite' (Nat.beq t t2) (oR (elm tt t fun e => ti tt e fun _ sz _ _ => some sz) fun sz => ite' (Nat.ble 1 sz) (two l (fun s x => s.nC (fun a => x.nC (fun b => appQ w sz s a b) .no) .no) .no) .no) .no) .no
def copQ (w : W) (sz : Nat) (a b : A) : Rs := b.nQ (a.nQ (.ok (i64 0) w) (fun _ _ _ _ _ => .ok (i64 0) w) .no) (fun b o n _ _ => a.nQ (.ok (i64 0) w) (fun b2 o2 n2 _ _ => fN (ite' (Nat.ble n n2) n n2) fun k => ite' (Nat.beq k 0) (.ok (i64 0) w) (oR (w.part b o (Nat.mul k sz)) fun z => oR (w.stn (.c (.p b2 o2)) (Nat.mul k sz) z) fun w => .ok (i64 k) w)) .no) .no
def bCopy (tt : T Ti) (ty : List TypeId) (l : List V) (w : W) : Rs := two ty (fun t _ => oR (elm tt t fun e => ti tt e fun _ sz _ _ => some sz) fun sz => ite' (Nat.ble 1 sz) (two l (fun d x => d.nC (fun a => x.nC (fun b => copQ w sz a b) .no) .no) .no) .no) .no
def bFn (b : Builtin) : T Ti → List TypeId → List V → W → Rs := Builtin.rec (motive := fun _ => T Ti → List TypeId → List V → W → Rs) bApp (fun _ _ _ _ => .no) (fun _ _ _ _ => .no) (fun _ _ _ _ => .no) (fun _ _ _ _ => .no) bCopy (fun _ _ _ _ => .no) (fun _ _ _ _ => .no) bLen (fun _ _ _ _ => .no)
  (fun _ _ => bMx true) (fun _ _ => bMx false) (fun _ _ _ _ => .no) (fun _ _ _ _ => .no) (fun _ _ _ _ => .no) (fun _ _ _ _ => .no) (fun _ _ _ _ => .no) (fun _ _ _ _ => .no) (fun _ _ _ _ => .no) (fun _ _ _ _ => .no) (fun _ _ _ _ => .no) (fun _ _ _ _ => .no) (fun _ _ _ _ => .no) (fun _ _ _ _ => .no) (fun _ _ _ _ => .no) (fun _ _ _ _ => .no) b
def oCall (c : Call) : Op1 := fun tt _ f w => Call.rec (motive := fun _ => Rs) (fun cal args ty => oR (evL f args.toList) fun l => Callee.rec (motive := fun _ => Rs)
  (fun _ => .no) (fun _ _ => .no) (fun b => bFn b tt ty.toList l w) cal) c
def opr (o : Op) : Op1 := Op.rec (motive := fun _ => Op1) oMove oMove oPick oAlloc oBox oBuild oBSlice (fun _ _ _ _ => oNo) oLoad oStore (fun _ => oNo) (fun _ => oNo) oNil oBin oUn oConv (fun _ _ => oNo) (fun _ _ => oNo) oMkF (fun _ _ => oNo) (fun _ _ => oNo) oMkS oSlice oFA oFld oIA oIx
  (fun _ _ _ _ => oNo) (fun _ _ _ _ => oNo) (fun _ _ _ => oNo) (fun _ _ _ _ => oNo) (fun _ _ => oNo) (fun _ _ => oNo) (fun _ => oNo) (fun _ _ _ _ => oNo) oExt oCall (fun _ => oNo) (fun _ => oNo) (fun _ => oNo) (fun _ _ => oNo) (fun _ _ _ => oNo) (fun _ _ => oNo) o

/-- The function that is called, and with what. -/
def cl1 (o : Op) : T V → Option (Nat × List V) := Op.rec (motive := fun _ => T V → Option (Nat × List V)) (fun _ _ => none) (fun _ _ => none) (fun _ _ _ _ => none) (fun _ _ => none) (fun _ _ _ => none) (fun _ _ _ => none) (fun _ _ _ _ => none) (fun _ _ _ _ _ => none) (fun _ _ _ => none) (fun _ _ _ _ => none) (fun _ _ => none) (fun _ _ => none) (fun _ _ => none) (fun _ _ _ _ _ _ => none) (fun _ _ _ _ => none) (fun _ _ _ _ => none) (fun _ _ _ => none) (fun _ _ _ => none) (fun _ _ _ _ => none) (fun _ _ _ => none) (fun _ _ _ => none) (fun _ _ _ _ => none) (fun _ _ _ _ _ _ => none) (fun _ _ _ _ => none) (fun _ _ _ _ => none) (fun _ _ _ _ => none) (fun _ _ _ _ => none) (fun _ _ _ _ _ => none) (fun _ _ _ _ _ => none) (fun _ _ _ _ => none) (fun _ _ _ _ _ => none) (fun _ _ _ => none) (fun _ _ _ => none) (fun _ _ => none) (fun _ _ _ _ _ => none) (fun _ _ _ => none) (fun c f => Call.rec (motive := fun _ => Option (Nat × List V)) (fun cal as _ => ob (evL f as.toList) fun l => Callee.rec (motive := fun _ => Option (Nat × List V)) (fun x => ob (ev f x) fun v => v.nC (fun a => a.nF (fun i x y => some (i, ptrs x (l ++ ptrs y []))) none) none) (fun _ _ => none) (fun _ => none) cal) c) (fun _ _ => none) (fun _ _ => none) (fun _ _ => none) (fun _ _ _ => none) (fun _ _ _ _ => none) (fun _ _ _ => none) o

/-! ### Statements -/
inductive Fe where
  | fn (f : Func)
  | own (g : List V → W → Option V)
/-- A step of a drawn statement: an operation with no effect; one with an effect. -/
inductive Stp where
  | fl (i : Nat)
  | ef (i : Nat)
/-- What was loaded: the operation's number, the type, the address, the value. -/
abbrev Rec := Nat × TypeId × V × V
/-- What is still to be done in a frame. -/
inductive It where
  | cd (c : Code)
  | ib (i : Nat)
  | il (c : Code)
  | rg (ops rest : List Oper)
  | rd (ops : List Oper) (rest : List Stp) (rc : List Rec)
  | lk (ops : List Oper) (i : Nat) (rest : List Stp) (rc : List Rec)
/-- A frame that waits for a call: where its result goes, its own results, what is left, its variables. -/
inductive Fr where
  | mk (d : Option Nat) (rs : List ResultVar) (k : List It) (f : T V)
inductive Cfg where
  | no
  | run (rs : List ResultVar) (k : List It) (f : T V) (w : W) (st : List Fr)
  | done (v : V) (w : W)
def dstOf (ops : List Oper) (j : Nat) : Option Nat := ob (nth ops j) fun o => o.dst
def putD (d : Option Nat) (f : T V) (v : V) (c : T V → Cfg) : Cfg := Option.rec (motive := fun _ => Cfg) (c f) (fun d => T.setK (pth d) f v c) d
abbrev Cont := T V → W → Cfg
/-- The tables of types and functions. -/
structure Tb where
  tt : T Ti
  ft : T Fe
abbrev CallC := Option Nat → Func → List V → T V → W → Cfg
def stp2 (tb : Tb) (o : Oper) (f : T V) (w : W) (h : CallC) (c : Cont) : Cfg := Rs.rec (motive := fun _ => Cfg) (Option.rec (motive := fun _ => Cfg) .no (fun p => Prod.rec (motive := fun _ => Cfg) (fun i l => Option.rec (motive := fun _ => Cfg) .no (fun e => Fe.rec (motive := fun _ => Cfg) (fun fn => h o.dst fn l f w) (fun g => Option.rec (motive := fun _ => Cfg) .no (fun v => putD o.dst f v fun f => c f w) (g l w)) e) (T.get (pth i) tb.ft)) p) (cl1 o.op f)) (fun v w => putD o.dst f v fun f => c f w) (opr o.op tb.tt o.type f w)
def guardB (ops : List Oper) (f : T V) (j : Nat) (b : Bool) : Option Bool := ob (dstOf ops j) fun d => ob (T.get (pth d) f) fun v => v.nC (fun a => a.nB (fun x => some (eqB x b)) (some false)) (some false)
def stp (tb : Tb) (ops : List Oper) (o : Oper) (f : T V) (w : W) (h : CallC) (c : Cont) : Cfg := Option.rec (motive := fun _ => Cfg) (stp2 tb o f w h c) (fun g => Prod.rec (motive := fun _ => Cfg) (fun j b => Option.rec (motive := fun _ => Cfg) .no (fun y => ite' y (stp2 tb o f w h c) (putD o.dst f .un fun f => c f w)) (guardB ops f j b)) g) o.guard
/-- A call: what is left is laid by, and the function begins. -/
def args (l : List V) (k : T V → Cfg) : Cfg := (List.rec (motive := fun _ => P4 → T V → Cfg) (fun _ f => k f) (fun v _ go p f => T.setK p f v fun f => go p.succ f) l) .h .l
def entr (rs : List ResultVar) (st : List Fr) (k : List It) : CallC := fun d fn l f w => Option.rec (motive := fun _ => Cfg) .no (fun c => args l fun f2 => .run fn.results.toList [.cd c] f2 w (.mk d rs k f :: st)) fn.body
def runL (tb : Tb) (ops : List Oper) (rs : List ResultVar) (st : List Fr) (k : List It) (l : List Oper) : Cont := List.rec (motive := fun _ => Cont) (fun f w => .run rs k f w st) (fun o l go f w => stp tb ops o f w (entr rs st (.rg ops l :: k)) go) l

/-! Drawn statements: what has no effect is taken as soon as it can be; behind each effect what was loaded is looked at again. -/
def isEff (o : Op) : Bool := Op.rec (motive := fun _ => Bool) (fun _ => false) (fun _ => false) (fun _ _ _ => false) (fun _ => false) (fun _ _ => false) (fun _ _ => false) (fun _ _ _ => false) (fun _ _ _ _ => true) (fun _ _ => false) (fun _ _ _ => true) (fun _ => true) (fun _ => true) (fun _ => false) (fun _ _ _ _ _ => false) (fun _ _ _ => false) (fun _ _ _ => false) (fun _ _ => true) (fun _ _ => false) (fun _ _ _ => false) (fun _ _ => true) (fun _ _ => true)
  (fun _ _ _ => false) (fun _ _ _ _ _ => false) (fun _ _ _ => false) (fun _ _ _ => false) (fun _ _ _ => false) (fun _ _ _ => false) (fun _ _ _ _ => true) (fun _ _ _ _ => true) (fun _ _ _ => true) (fun _ _ _ _ => true) (fun _ _ => true) (fun _ _ => true) (fun _ => true) (fun _ _ _ _ => true) (fun _ _ => false)
  (fun c => Callee.rec (motive := fun _ => Bool) (fun _ => true) (fun _ _ => true) (fun b => Builtin.rec (motive := fun _ => Bool) true true true true true true true true false true false false true true true true true true true true true true true true true true b) c.callee) (fun _ => true) (fun _ => true) (fun _ => true) (fun _ _ => true) (fun _ _ _ => true) (fun _ _ => true) o
def isLd (o : Op) : Option (TypeId × Operand) := Op.rec (motive := fun _ => Option (TypeId × Operand)) (fun _ => none) (fun _ => none) (fun _ _ _ => none) (fun _ => none) (fun _ _ => none) (fun _ _ => none) (fun _ _ _ => none) (fun _ _ _ _ => none) (fun t x => some (t, x)) (fun _ _ _ => none) (fun _ => none) (fun _ => none) (fun _ => none) (fun _ _ _ _ _ => none) (fun _ _ _ => none) (fun _ _ _ => none) (fun _ _ => none) (fun _ _ => none) (fun _ _ _ => none) (fun _ _ => none) (fun _ _ => none)
  (fun _ _ _ => none) (fun _ _ _ _ _ => none) (fun _ _ _ => none) (fun _ _ _ => none) (fun _ _ _ => none) (fun _ _ _ => none) (fun _ _ _ _ => none) (fun _ _ _ _ => none) (fun _ _ _ => none) (fun _ _ _ _ => none) (fun _ _ => none) (fun _ _ => none) (fun _ => none) (fun _ _ _ _ => none) (fun _ _ => none) (fun _ => none) (fun _ => none) (fun _ => none) (fun _ => none) (fun _ _ => none) (fun _ _ _ => none) (fun _ _ => none) o
def bind1 (g : Ground) : Bool := Ground.rec (motive := fun _ => Bool) true true true true (fun _ => false) (fun _ => false) g
/-- Of each operation what has to come before it, as bits. -/
def befs (l : List Oper) : List Nat := List.rec (motive := fun _ => List Nat → List Nat) (fun acc => acc.reverse) (fun o _ go acc => go (List.rec (motive := fun _ => Nat) 0 (fun e _ s => ite' (bind1 e.ground) (Nat.lor s (Nat.lor (Nat.shiftLeft 1 e.on) (Option.rec (motive := fun _ => Nat) 0 (fun x => x) (nth acc.reverse e.on)))) s) o.after.toList :: acc)) l []
def effs (l : List Oper) (bs : List Nat) : List (Nat × Nat) := (List.rec (motive := fun _ => Nat → List Nat → List (Nat × Nat)) (fun _ _ => []) (fun o _ go i bs => List.rec (motive := fun _ => List (Nat × Nat)) [] (fun b bs _ => ite' (isEff o.op) ((i, b) :: go (Nat.succ i) bs) (go (Nat.succ i) bs)) bs) l) 0 bs
/-- The operations without effect that wait for just the effects of m. -/
def flts (em m : Nat) (l : List Oper) (bs : List Nat) (tail : List Stp) : List Stp := (List.rec (motive := fun _ => Nat → List Nat → List Stp) (fun _ _ => tail) (fun o _ go i bs => List.rec (motive := fun _ => List Stp) [] (fun b bs _ => ite' (isEff o.op) (go (Nat.succ i) bs) (ite' (Nat.beq (Nat.land b em) m) (.fl i :: go (Nat.succ i) bs) (go (Nat.succ i) bs))) bs) l) 0 bs
def plan (l : List Oper) : List Stp := (fun bs es => (fun em => flts em 0 l bs ((List.rec (motive := fun _ => Nat → List Stp) (fun _ => []) (fun p _ go m => Prod.rec (motive := fun _ => List Stp) (fun i _ => .ef i :: flts em (Nat.lor m (Nat.shiftLeft 1 i)) l bs (go (Nat.lor m (Nat.shiftLeft 1 i)))) p) es) 0))
  (List.rec (motive := fun _ => Nat) 0 (fun p _ s => Nat.lor s (Nat.shiftLeft 1 p.1)) es)) (befs l) (effs l (befs l))
def A.same (x y : A) : Bool := A.rec (motive := fun _ => A → Bool)
  (fun k n y => y.nI (fun k2 m => ite' (Nat.beq (ikd k) (ikd k2)) (Nat.beq n m) false) false) (fun a y => y.nB (fun b => eqB a b) false) (fun _ _ => false)
  (fun y => A.rec (motive := fun _ => Bool) (fun _ _ => false) (fun _ => false) (fun _ => false) true (fun _ _ => false) false (fun _ _ _ _ _ => false) false (fun _ _ _ => false) false false y)
  (fun b o y => y.nP (fun c p => ite' (b.eq c) (Nat.beq o p) false) false)
  (fun y => y.nQ true (fun _ _ _ _ _ => false) false)
  (fun b o n k c y => y.nQ false (fun b2 o2 n2 k2 c2 => ite' (b.eq b2) (ite' (Nat.beq o o2) (ite' (Nat.beq n n2) (ite' (eqB k k2) (Nat.beq c c2) false) false) false) false) false)
  (fun y => A.rec (motive := fun _ => Bool) (fun _ _ => false) (fun _ => false) (fun _ => false) false (fun _ _ => false) false (fun _ _ _ _ _ => false) true (fun _ _ _ => false) false false y)
  (fun _ _ _ _ => false)
  (fun y => A.rec (motive := fun _ => Bool) (fun _ _ => false) (fun _ => false) (fun _ => false) false (fun _ _ => false) false (fun _ _ _ _ _ => false) false (fun _ _ _ => false) true false y)
  (fun y => A.rec (motive := fun _ => Bool) (fun _ _ => false) (fun _ => false) (fun _ => false) false (fun _ _ => false) false (fun _ _ _ _ _ => false) false (fun _ _ _ => false) false true y) x y
def R.same (r : R) : R → Bool := R.rec (motive := fun _ => R → Bool) (fun s => R.rec (motive := fun _ => Bool) true (fun _ => false) (fun _ _ _ _ _ _ => false) s) (fun a s => R.rec (motive := fun _ => A → Bool) (fun _ => false) (fun b a => a.same b) (fun _ _ _ _ _ _ _ => false) s a)
  (fun ls sz _ _ gl gr s => R.rec (motive := fun _ => Nat → Nat → (R → Bool) → (R → Bool) → Bool) (fun _ _ _ _ => false) (fun _ _ _ _ _ => false) (fun ls2 sz2 l r _ _ ls sz gl gr => ite' (Nat.beq ls ls2) (ite' (Nat.beq sz sz2) (ite' (gl l) (gr r) false) false) false) s ls sz gl gr) r
def V.same (x y : V) : Bool := x.nC (fun a => y.nC (fun b => a.same b) false) (x.nG (fun r => y.nG (fun s => r.same s) false) false)
def look (tt : T Ti) (w : W) (b : Nat) (l : List Rec) : Bool := List.rec (motive := fun _ => Bool) true (fun r _ s => Prod.rec (motive := fun _ => Bool) (fun i r => ite' (Nat.testBit b i) s (Prod.rec (motive := fun _ => Bool) (fun t r => Prod.rec (motive := fun _ => Bool) (fun a v => Option.rec (motive := fun _ => Bool) false (fun v2 => ite' (v.same v2) s false) (ti tt t fun ag n _ _ => ite' ag (w.ldn a n) (w.ld1 a))) r) r)) r) l
/-- What is noted of a load: nothing where its guard passes it over. -/
def note (f : T V) (i : Nat) (o : Oper) (f' : T V) (l : List Rec) (k : List Rec → Cfg) : Cfg := Option.rec (motive := fun _ => Cfg) (k l) (fun p => Prod.rec (motive := fun _ => Cfg) (fun t x => Option.rec (motive := fun _ => Cfg) (k l) (fun a => Option.rec (motive := fun _ => Cfg) (k l) (fun d => Option.rec (motive := fun _ => Cfg) (k l) (fun v => V.rec (motive := fun _ => Cfg) (fun x => k ((i, t, a, .c x) :: l)) (fun r => k ((i, t, a, .g r) :: l)) (k l) (fun _ _ _ _ => k l) v) (T.get (pth d) f')) o.dst) (ev f x)) p) (isLd o.op)
/-- What comes before operation i. -/
def bfr (ops : List Oper) (i : Nat) : Nat := Option.rec (motive := fun _ => Nat) 0 (fun x => x) (nth (befs ops) i)
def runD (tb : Tb) (ops : List Oper) (rs : List ResultVar) (st : List Fr) (k : List It) (l : List Stp) : List Rec → Cont := List.rec (motive := fun _ => List Rec → Cont) (fun _ f w => .run rs k f w st)
  (fun s l go rc f w => Stp.rec (motive := fun _ => Cfg) (fun i => Option.rec (motive := fun _ => Cfg) .no (fun o => stp tb ops o f w (fun _ _ _ _ _ => .no) fun f' w => note f i o f' rc fun rc => go rc f' w) (nth ops i)) (fun i => Option.rec (motive := fun _ => Cfg) .no (fun o => stp tb ops o f w (entr rs st (.lk ops i l rc :: k)) fun f w => ite' (look tb.tt w (bfr ops i) rc) (go rc f w) .no) (nth ops i)) s) l

/-! ### Code and calls -/
def resOne (tt : T Ti) (f : T V) (w : W) (r : ResultVar) : Option V := ResultVar.rec (motive := fun _ => Option V) (fun t => T.get (pth t) f) (fun a t => ob (T.get (pth a) f) fun a => ti tt t fun ag n _ _ => ite' ag (w.ldn a n) (w.ld1 a)) r
def resL (tt : T Ti) (f : T V) (w : W) (l : List ResultVar) : Option V := List.rec (motive := fun _ => Option V) (some .un) (fun r _ s => ob (resOne tt f w r) fun v => V.rec (motive := fun _ => Option V) (fun a => ob s fun t => some (.k (.c a) t)) (fun r => ob s fun t => some (.k (.g r) t)) none (fun _ _ _ _ => none) v) l
def resV (tt : T Ti) (f : T V) (w : W) (l : List ResultVar) : Option V := List.rec (motive := fun _ => Option V) (some .un) (fun r m _ => List.rec (motive := fun _ => Option V) (resOne tt f w r) (fun _ _ _ => resL tt f w (r :: m)) m) l
/-- The function returns. -/
def leave (tb : Tb) (rs : List ResultVar) (f : T V) (w : W) (st : List Fr) : Cfg := Option.rec (motive := fun _ => Cfg) .no (fun v => List.rec (motive := fun _ => Cfg) (.done v w) (fun fr st _ => Fr.rec (motive := fun _ => Cfg) (fun d rs k f => putD d f v fun f => .run rs k f w st) fr) st) (resV tb.tt f w rs)
def exitTo (i : Nat) (l : List It) (c : List It → Cfg) : Cfg := List.rec (motive := fun _ => Cfg) .no (fun t l go => It.rec (motive := fun _ => Cfg) (fun _ => go) (fun j => ite' (Nat.beq j i) (c l) go) (fun _ => go) (fun _ _ => go) (fun _ _ _ => go) (fun _ _ _ _ => go) t) l
def stepC (tb : Tb) (c : Code) : List ResultVar → List It → T V → W → List Fr → Cfg := Code.rec (motive := fun _ => List ResultVar → List It → T V → W → List Fr → Cfg)
  (fun rs k f w st => .run rs k f w st)
  (fun _ ops d rs k f w st => ite' d (runD tb ops.toList rs st k (plan ops.toList) [] f w) (runL tb ops.toList rs st k ops.toList f w))
  (fun a b _ _ rs k f w st => .run rs (.cd a :: .cd b :: k) f w st)
  (fun c a b _ _ rs k f w st => Option.rec (motive := fun _ => Cfg) .no (fun v => v.nC (fun x => x.nB (fun y => ite' y (.run rs (.cd a :: k) f w st) (.run rs (.cd b :: k) f w st)) .no) .no) (ev f c))
  (fun i a _ rs k f w st => .run rs (.cd a :: .ib i :: k) f w st)
  (fun a _ rs k f w st => .run rs (.cd a :: .il a :: k) f w st)
  (fun _ _ _ _ _ _ _ _ _ _ _ => .no)
  (fun i rs k f w st => exitTo i k fun k => .run rs k f w st)
  (fun a _ rs k f w st => .run rs (.cd a :: k) f w st) (fun _ rs k f w st => .run rs k f w st) (fun _ _ _ _ _ _ => .no)
  (fun rs _ f w st => leave tb rs f w st)
  (fun _ _ _ _ _ _ => .no) c
def stepI (tb : Tb) (t : It) : List ResultVar → List It → T V → W → List Fr → Cfg := It.rec (motive := fun _ => List ResultVar → List It → T V → W → List Fr → Cfg)
  (stepC tb) (fun _ rs k f w st => .run rs k f w st) (fun c rs k f w st => .run rs (.cd c :: .il c :: k) f w st)
  (fun ops l rs k f w st => runL tb ops rs st k l f w) (fun ops l rc rs k f w st => runD tb ops rs st k l rc f w)
  (fun ops i l rc rs k f w st => ite' (look tb.tt w (bfr ops i) rc) (runD tb ops rs st k l rc f w) .no) t
def stepK (tb : Tb) (rs : List ResultVar) (k : List It) (f : T V) (w : W) (st : List Fr) : Cfg := List.rec (motive := fun _ => Cfg) (leave tb rs f w st) (fun t k _ => stepI tb t rs k f w st) k
/-- n steps; it stays where it cannot go on. -/
def runq (tb : Tb) (n : Nat) : Cfg → Cfg := Nat.rec (motive := fun _ => Cfg → Cfg) (fun c => c) (fun _ go c => Cfg.rec (motive := fun _ => Cfg) .no (fun rs k f w st => Cfg.rec (motive := fun _ => Cfg) (.run rs k f w st) (fun rs k f w st => go (.run rs k f w st)) (fun v w => .done v w) (stepK tb rs k f w st)) (fun v w => .done v w) c) n
/-- A call begins. -/
def start (tb : Tb) (i : Nat) (l : List V) (w : W) : Cfg := Option.rec (motive := fun _ => Cfg) .no (fun e => Fe.rec (motive := fun _ => Cfg) (fun fn => Option.rec (motive := fun _ => Cfg) .no (fun c => args l fun f => .run fn.results.toList [.cd c] f w []) fn.body) (fun _ => .no) e) (T.get (pth i) tb.ft)

/-- Three variables of the program. -/
def gtr (z0 z1 z2 : R) : T Blk := .n (some (.mk z0 false true)) (.n (some (.mk z1 false true)) .l .l .l .l) (.n (some (.mk z2 false true)) .l .l .l .l) .l .l
/-! ### A function that is not run, but asked for: a number and a row of bytes -/
def u8L (l : List A) : Option (List Nat) := List.rec (motive := fun _ => Option (List Nat)) (some []) (fun a _ s => a.nI (fun k n => ite' (Nat.beq (ikd k) 4) (ob s fun s => some (n :: s)) none) none) l
def tagV (o : Option Int) : Option V := ob o fun r => Int.rec (motive := fun _ => Option V) (fun n => fN n fun n => ite' (Nat.ble (Nat.succ n) 18446744073709551616) (some (.c (.i .u64 n))) none) (fun _ => none) r
def toIs (l : List Nat) : List Int := List.rec (motive := fun _ => List Int) [] (fun n _ s => Int.ofNat n :: s) l
def ownG (tw : Int → List Int → Option Int) (l : List V) (w : W) : Option V := two l (fun a b => a.nC (fun x => x.nI (fun k n => ite' (Nat.beq (ikd k) 7) (b.nC (fun q => q.nQ (tagV (tw (Int.ofNat n) [])) (fun bl o m _ _ => ob (w.part bl o m) fun r => ob (u8L (r.list [])) fun l => tagV (tw (Int.ofNat n) (toIs l))) none) none) none) none) none) none
end
end I
end Go.Proofs.YtladkmnfmpojiaaGreatDoor
