import Derived.Test.YteciijnpfapmhaaSl
namespace Go.Proofs.Yteciijnpfapmhaa
set_option linter.unusedSimpArgs false
set_option linter.unusedVariables false
open Go.RowKit

def vAt {α : Type} (good : α → Bool) (lt : α → α → Bool) (xs : List α) (k : Nat) : Bool :=
  match xs[k]? with
  | some x => good x && (match k with | 0 => true | k' + 1 => (match xs[k']? with | some y => lt y x | none => true))
  | none => true
def vB {α : Type} (good : α → Bool) (lt : α → α → Bool) (n : Nat) (xs : List α) : Bool := (List.range xs.length).all (vAt good lt xs) && decide (xs.length ≤ n)
section
variable {α : Type} {good : α → Bool} {lt : α → α → Bool} {n : Nat} {xs : List α}
theorem vAt_zero (h : 0 < xs.length) : vAt good lt xs 0 = good xs[0] := by simp [vAt, h]
theorem vAt_succ (k : Nat) (h : k + 1 < xs.length) : vAt good lt xs (k + 1) = (good xs[k + 1] && lt xs[k] xs[k + 1]) := by
  have h' : k < xs.length := by omega
  simp [vAt, h, h']
theorem vB_bad {k : Nat} (h : k < xs.length) (hv : vAt good lt xs k = false) : vB good lt n xs = false := by
  have : (List.range xs.length).all (vAt good lt xs) = false := by
    rw [List.all_eq_false]
    exact ⟨k, List.mem_range.2 h, by simp [hv]⟩
  simp [vB, this]
theorem vB_all (h : ∀ j, j < xs.length → vAt good lt xs j = true) : vB good lt n xs = decide (xs.length ≤ n) := by
  have : (List.range xs.length).all (vAt good lt xs) = true := by
    rw [List.all_eq_true]
    exact fun j hj => h j (List.mem_range.1 hj)
  simp [vB, this]
theorem vB_long (h : n < xs.length) : vB good lt n xs = false := by
  simp only [vB, Bool.and_eq_false_iff, decide_eq_false_iff_not]
  right
  omega
theorem vB_len (h : vB good lt n xs = true) : xs.length ≤ n := by
  simp only [vB, Bool.and_eq_true, decide_eq_true_eq] at h
  exact h.2
theorem vB_at (h : vB good lt n xs = true) (k : Nat) (hk : k < xs.length) : good xs[k] = true := by
  simp only [vB, Bool.and_eq_true, List.all_eq_true, List.mem_range] at h
  have := h.1 k hk
  cases k with
  | zero => rwa [vAt_zero hk] at this
  | succ k => rw [vAt_succ k hk, Bool.and_eq_true] at this; exact this.1
theorem vB_lt (h : vB good lt n xs = true) (k : Nat) (hk : k + 1 < xs.length) : lt xs[k] xs[k + 1] = true := by
  simp only [vB, Bool.and_eq_true, List.all_eq_true, List.mem_range] at h
  have := h.1 (k + 1) hk
  rw [vAt_succ k hk, Bool.and_eq_true] at this
  exact this.2
/-- all elements of a list that reads -/
theorem Rds.all {cf : α → List Value} {sz : Nat} {w : World} {A : Option Addr} (h : Rds cf sz w A xs) (h0 : 0 < xs.length) :
    ∃ b off, A = some ⟨b, off, none⟩ ∧ b < w.heap.size ∧ ∀ i (hi : i < xs.length) j v, (cf xs[i])[j]? = some v → w.cell? ⟨b, off + i * sz + j, none⟩ = some v := by
  obtain ⟨b, off, hA, hb, _⟩ := h 0 xs[0] (List.getElem?_eq_getElem h0)
  refine ⟨b, off, hA, hb, fun i hi j v hv => ?_⟩
  obtain ⟨b', off', hA', _, hc⟩ := h i xs[i] (List.getElem?_eq_getElem hi)
  rw [hA] at hA'
  cases hA'
  exact hc j v hv
end

end Go.Proofs.Yteciijnpfapmhaa
