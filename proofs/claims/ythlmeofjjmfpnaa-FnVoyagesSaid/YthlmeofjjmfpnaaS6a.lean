import Derived.Test.YthlmeofjjmfpnaaSDefs
namespace Go.Proofs.Ythlmeofjjmfpnaa
set_option linter.unusedSimpArgs false
set_option linter.unusedVariables false
open Go.RowKit

def wholeW (xs : List (Int × Int)) : Int × Int := xs.foldl (fun a x => (wrap64 (a.1 + x.1), wrap64 (a.2 + x.2))) (0, 0)
theorem wholeW_snoc (xs : List (Int × Int)) (k : Nat) (h : k < xs.length) : wholeW (xs.take (k + 1)) = (wrap64 ((wholeW (xs.take k)).1 + xs[k].1), wrap64 ((wholeW (xs.take k)).2 + xs[k].2)) := by
  unfold wholeW
  rw [List.take_succ_eq_append_getElem h, List.foldl_append]; rfl


def legsB (xs : List (Int × Int)) : Bool := xs.all fun x => legB x.1 x.2
theorem legsB_snoc (xs : List (Int × Int)) (k : Nat) (h : k < xs.length) : legsB (xs.take (k + 1)) = (legsB (xs.take k) && legB xs[k].1 xs[k].2) := by
  unfold legsB
  rw [List.take_succ_eq_append_getElem h, List.all_append]; simp
theorem legsB_not (xs : List (Int × Int)) (k : Nat) (h : k < xs.length) (hn : legB xs[k].1 xs[k].2 = false) : legsB xs = false := by
  unfold legsB
  rw [List.all_eq_false]
  exact ⟨xs[k], List.getElem_mem h, by simp [hn]⟩
theorem legsB_at {xs : List (Int × Int)} (h : legsB xs = true) (k : Nat) (hk : k < xs.length) : legB xs[k].1 xs[k].2 = true := by
  unfold legsB at h
  rw [List.all_eq_true] at h
  exact h _ (List.getElem_mem hk)
def voyB (xs : List (Int × Int)) : Bool := legsB xs && decide (xs.length ≤ 8)
theorem voyB_any (xs : List (Int × Int)) : (xs.any fun x => !legB x.1 x.2) = !legsB xs := by
  unfold legsB
  rw [List.any_eq_not_all_not]
  simp
theorem voyB_len {xs : List (Int × Int)} (h : voyB xs = true) : xs.length ≤ 8 := by
  simp [voyB] at h; exact h.2
theorem voyB_legs {xs : List (Int × Int)} (h : voyB xs = true) : legsB xs = true := by
  simp [voyB] at h; exact h.1
theorem wholeW_bdk {xs : List (Int × Int)} (h : legsB xs = true) (hl : xs.length ≤ 8) : ∀ k, k ≤ xs.length → 0 ≤ (wholeW (xs.take k)).1 ∧ (wholeW (xs.take k)).1 ≤ (wholeW (xs.take k)).2 ∧ (wholeW (xs.take k)).2 ≤ 1000 * k := by
  intro k
  induction k with
  | zero => intro _; simp [wholeW]
  | succ k ih =>
    intro hk
    have h1 := ih (by omega)
    have h2 := legB_bd (legsB_at h k (by omega))
    rw [wholeW_snoc xs k (by omega)]
    generalize (wholeW (xs.take k)).1 = p at *
    generalize (wholeW (xs.take k)).2 = q at *
    generalize xs[k].1 = l at *
    generalize xs[k].2 = m at *
    simp only [IntWalk.wrap64_in (p + l) (by omega), IntWalk.wrap64_in (q + m) (by omega)]
    omega
theorem voyB_bd {xs : List (Int × Int)} (h : voyB xs = true) : 0 ≤ (wholeW xs).1 ∧ (wholeW xs).1 ≤ (wholeW xs).2 ∧ (wholeW xs).2 ≤ 8000 := by
  have hl := voyB_len h
  have := wholeW_bdk (voyB_legs h) hl xs.length (Nat.le_refl _)
  rw [List.take_length] at this
  omega
def latestV (xs : List (Int × Int)) (d : Int) : Int × Bool := if voyB xs = true ∧ minB d = true ∧ (wholeW xs).2 ≤ d then (d - (wholeW xs).2, true) else (0, false)

end Go.Proofs.Ythlmeofjjmfpnaa
