import Derived.Test.YthlmeofjjmfpnaaS6a
namespace Go.Proofs.Ythlmeofjjmfpnaa
set_option linter.unusedSimpArgs false
set_option linter.unusedVariables false
open Go.RowKit

def alongP (a b : Int) (xs : List (Int × Int)) (i : Nat) : Int × Int := (a + (wholeW (xs.take i)).1, b + (wholeW (xs.take i)).2)
def alongR (a b : Int) (xs : List (Int × Int)) (k : Nat) : List (Int × Int) := (List.range k).map fun i => alongP a b xs (i + 1)
theorem alongR_snoc (a b : Int) (xs : List (Int × Int)) (k : Nat) : alongR a b xs (k + 1) = alongR a b xs k ++ [alongP a b xs (k + 1)] := by simp [alongR, List.range_succ]
theorem alongR_len (a b : Int) (xs : List (Int × Int)) (k : Nat) : (alongR a b xs k).length = k := by simp [alongR]
def gI (p : Int × Int) : Bool := goodI p.1 p.2
def alongV (a b : Int) (xs : List (Int × Int)) : List (Int × Int) × Bool := if goodI a b = true ∧ voyB xs = true ∧ (alongR a b xs xs.length).all gI = true then (alongR a b xs xs.length, true) else ([], false)
theorem alongP_step {a b : Int} {xs : List (Int × Int)} (h : voyB xs = true) (k : Nat) (hk : k < xs.length) : alongP a b xs (k + 1) = ((alongP a b xs k).1 + xs[k].1, (alongP a b xs k).2 + xs[k].2) := by
  have h1 := wholeW_bdk (voyB_legs h) (voyB_len h) k (by omega)
  have h2 := legB_bd (legsB_at (voyB_legs h) k hk)
  have h3 := voyB_len h
  unfold alongP
  rw [wholeW_snoc xs k hk]
  generalize (wholeW (xs.take k)).1 = p at *
  generalize (wholeW (xs.take k)).2 = q at *
  generalize xs[k].1 = l at *
  generalize xs[k].2 = m at *
  simp only [IntWalk.wrap64_in (p + l) (by omega), IntWalk.wrap64_in (q + m) (by omega)]
  exact Prod.ext (by simp only; omega) (by simp only; omega)
theorem alongP_zero (a b : Int) (xs : List (Int × Int)) : alongP a b xs 0 = (a, b) := by simp [alongP, wholeW]
theorem alongR_bad {a b : Int} {xs : List (Int × Int)} {k n : Nat} (hk : k < n) (h : gI (alongP a b xs (k + 1)) = false) : (alongR a b xs n).all gI = false := by
  rw [List.all_eq_false]
  exact ⟨alongP a b xs (k + 1), List.mem_map.2 ⟨k, List.mem_range.2 hk, rfl⟩, by simp [h]⟩
theorem alongR_last {a b : Int} {xs : List (Int × Int)} (hg : goodI a b = true) : ∀ k, (alongR a b xs k).all gI = true → goodI (alongP a b xs k).1 (alongP a b xs k).2 = true := by
  intro k h
  cases k with
  | zero => rw [alongP_zero]; exact hg
  | succ k =>
    rw [alongR_snoc, List.all_append, Bool.and_eq_true] at h
    simpa [gI] using h.2
theorem cIv_one : ∀ x, ∀ u ∈ cIv x, u.oneCell' = true := by
  intro x u hu
  simp [cIv] at hu
  rcases hu with rfl | rfl <;> rfl
theorem alongV_len (a b : Int) (xs : List (Int × Int)) : (alongV a b xs).1.length ≤ xs.length := by
  unfold alongV
  split
  · simp [alongR_len]
  · simp

end Go.Proofs.Ythlmeofjjmfpnaa
