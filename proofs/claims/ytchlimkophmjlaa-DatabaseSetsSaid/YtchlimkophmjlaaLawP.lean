/-
  Put of the reference.
-/
import Derived.Test.YtchlimkophmjlaaLawN
namespace Go.Proofs.Ytchlimkophmjlaa
namespace V
theorem rput_step (F : Nat) (size n i : Int) (l : List Int) (h0 : 0 ≤ n) (h1 : n < 18446744073709551616) (hl : l.length ≤ 1000000) (hi : 0 ≤ i ∧ i < 1000) (hs : i < size) : wirelessref23_Put_l1 F size n l i = some (.next (n / 256, l ++ [n % 256], i + 1)) := by
  unfold wirelessref23_Put_l1
  rw [if_pos (by simpa using hs)]
  simp only [remp, quop, tmod256 h0, tdiv256 h0, wrap_u64]
  rw [wu8_id (by omega) (by omega), app_cat (by simp; omega)]
  simp only [Option.bind_some]
  rw [wu64_id (by omega) (by omega), w64_id (by omega) (by omega)]
theorem rput_ok (F : Nat) (n : Int) (k : Nat) (hF : k < F) (hk : k ≤ 8) (h0 : 0 ≤ n) (h1 : n < 18446744073709551616) : wirelessref23_Put F n k = some (leb k n) := by
  have gen : ∀ (m F : Nat) (n i : Int) (l : List Int), 0 ≤ n → n < 18446744073709551616 → l.length ≤ 1000 - m → m ≤ 8 → 0 ≤ i → i + m = k → m < F → iter (fun s => wirelessref23_Put_l1 F (k : Int) s.1 s.2.1 s.2.2) F (n, l, i) = some (l ++ leb m n) := by
    intro m
    intro F
    have key : ∀ (m f : Nat) (n i : Int) (l : List Int), 0 ≤ n → n < 18446744073709551616 → l.length ≤ 1000 - m → m ≤ 8 → 0 ≤ i → i + m = k → m < f → iter (fun s => wirelessref23_Put_l1 F (k : Int) s.1 s.2.1 s.2.2) f (n, l, i) = some (l ++ leb m n) := by
      intro m
      induction m with
      | zero =>
        intro f n i l h0 h1 hl hm hi hik hf
        cases f with
        | zero => omega
        | succ f =>
          rw [iter_stop (o := l) (by unfold wirelessref23_Put_l1; rw [if_neg (by simp; omega)])]
          simp [leb]
      | succ m ih =>
        intro f n i l h0 h1 hl hm hi hik hf
        cases f with
        | zero => omega
        | succ f =>
          rw [iter_step (rput_step F k n i l h0 h1 (by omega) (by omega) (by omega)), ih f (n / 256) (i + 1) (l ++ [n % 256]) (by omega) (by omega) (by simp; omega) (by omega) (by omega) (by omega) (by omega)]
          simp [leb]
    exact key m F
  unfold wirelessref23_Put
  rw [gen k F n 0 [] h0 h1 (by simp) hk (by omega) (by omega) hF]
  simp [wirelessref23_Put_j1]
end V
end Go.Proofs.Ytchlimkophmjlaa
