import Derived.Test.YtgjbdcalmodhpaaDefs
import Derived.Test.YtgjbdcalmodhpaaSl
namespace Go.Proofs.Ytgjbdcalmodhpaa
set_option linter.unusedSimpArgs false
set_option linter.unusedVariables false
open Go.RowKit

def cPas (x : (Int × Bool × Int × Int)) : List Value := [.int .i64 (x.1), .bool (x.2.1), .int .i64 (x.2.2.1), .int .i64 (x.2.2.2)]
theorem cPas_len (x : (Int × Bool × Int × Int)) : (cPas x).length = 4 := rfl

def mkPas (n : Nat) (k : Int) : List (Int × Bool × Int × Int) := (List.range n).map fun (i : Nat) => (k + 4 * (i : Int), ((k + 4 * (i : Int) + 1) % 3 == 0), k + 4 * (i : Int) + 2, k + 4 * (i : Int) + 3)

theorem mkPas_len (n : Nat) (k : Int) : (mkPas n k).length = n := by simp [mkPas]
theorem mkPas_at (n : Nat) (k : Int) (j : Nat) (h : j < n) (h' : j < (mkPas n k).length) : (mkPas n k)[j] = (k + 4 * (j : Int), ((k + 4 * (j : Int) + 1) % 3 == 0), k + 4 * (j : Int) + 2, k + 4 * (j : Int) + 3) := by simp [mkPas]

theorem mkPas_snoc (j : Nat) (k : Int) : mkPas (j + 1) k = mkPas j k ++ [(k + 4 * (j : Int), ((k + 4 * (j : Int) + 1) % 3 == 0), k + 4 * (j : Int) + 2, k + 4 * (j : Int) + 3)] := by simp [mkPas, List.range_succ]

def pasB (i : Int) (_d : Bool) (a b : Int) : Bool := decide (1 ≤ i ∧ i ≤ 99 ∧ 0 ≤ a ∧ a < b ∧ b ≤ 9999)
theorem pasB_bd {i a b : Int} {d : Bool} (h : pasB i d a b = true) : 1 ≤ i ∧ i ≤ 99 ∧ 0 ≤ a ∧ a < b ∧ b ≤ 9999 := by simpa [pasB] using h
def gapB (g : Int) : Bool := decide (0 ≤ g ∧ g ≤ 30)
theorem gapB_bd {g : Int} (h : gapB g = true) : 0 ≤ g ∧ g ≤ 30 := by simpa [gapB] using h
def clashB (i : Int) (d : Bool) (a b : Int) (i' : Int) (d' : Bool) (a' b' : Int) (g : Int) : Bool :=
  if d = d' then (if a' < a ∨ a' = a ∧ i' < i then decide (a - a' < g ∨ b - b' < g) else decide (a' - a < g ∨ b' - b < g)) else decide (max a a' < min b b')
def pOk (p : Int × Bool × Int × Int) : Bool := pasB p.1 p.2.1 p.2.2.1 p.2.2.2
def pLt (p q : Int × Bool × Int × Int) : Bool := decide (p.1 < q.1)
def clash (p q : Int × Bool × Int × Int) (g : Int) : Bool := clashB p.1 p.2.1 p.2.2.1 p.2.2.2 q.1 q.2.1 q.2.2.1 q.2.2.2 g

def vAt {α : Type} (good : α → Bool) (lt : α → α → Bool) (xs : List α) (k : Nat) : Bool :=
  match xs[k]? with
  | some x => good x && (match k with | 0 => true | k' + 1 => (match xs[k']? with | some y => lt y x | none => true))
  | none => true
def vB {α : Type} (good : α → Bool) (lt : α → α → Bool) (n : Nat) (xs : List α) : Bool := (List.range xs.length).all (vAt good lt xs) && decide (xs.length ≤ n)
section
variable {α : Type} {good : α → Bool} {lt : α → α → Bool} {n : Nat} {xs : List α}
theorem vAt_zero (h : 0 < xs.length) : vAt good lt xs 0 = good xs[0] := by simp [vAt, h]
theorem vAt_succ (k : Nat) (h : k + 1 < xs.length) : vAt good lt xs (k + 1) = (good xs[k + 1] && lt xs[k] xs[k + 1]) := by
  have h' : k < xs.length := by omega
  simp [vAt, h, h']
theorem vB_bad {k : Nat} (h : k < xs.length) (hv : vAt good lt xs k = false) : vB good lt n xs = false := by
  have : (List.range xs.length).all (vAt good lt xs) = false := by
    rw [List.all_eq_false]
    exact ⟨k, List.mem_range.2 h, by simp [hv]⟩
  simp [vB, this]
theorem vB_all (h : ∀ j, j < xs.length → vAt good lt xs j = true) : vB good lt n xs = decide (xs.length ≤ n) := by
  have : (List.range xs.length).all (vAt good lt xs) = true := by
    rw [List.all_eq_true]
    exact fun j hj => h j (List.mem_range.1 hj)
  simp [vB, this]
theorem vB_long (h : n < xs.length) : vB good lt n xs = false := by
  simp only [vB, Bool.and_eq_false_iff, decide_eq_false_iff_not]
  right
  omega
theorem vB_len (h : vB good lt n xs = true) : xs.length ≤ n := by
  simp only [vB, Bool.and_eq_true, decide_eq_true_eq] at h
  exact h.2
theorem vB_at (h : vB good lt n xs = true) (k : Nat) (hk : k < xs.length) : good xs[k] = true := by
  simp only [vB, Bool.and_eq_true, List.all_eq_true, List.mem_range] at h
  have := h.1 k hk
  cases k with
  | zero => rwa [vAt_zero hk] at this
  | succ k => rw [vAt_succ k hk, Bool.and_eq_true] at this; exact this.1
theorem vB_lt (h : vB good lt n xs = true) (k : Nat) (hk : k + 1 < xs.length) : lt xs[k] xs[k + 1] = true := by
  simp only [vB, Bool.and_eq_true, List.all_eq_true, List.mem_range] at h
  have := h.1 (k + 1) hk
  rw [vAt_succ k hk, Bool.and_eq_true] at this
  exact this.2
/-- all elements of a list that reads -/
theorem Rds.all {cf : α → List Value} {sz : Nat} {w : World} {A : Option Addr} (h : Rds cf sz w A xs) (h0 : 0 < xs.length) :
    ∃ b off, A = some ⟨b, off, none⟩ ∧ b < w.heap.size ∧ ∀ i (hi : i < xs.length) j v, (cf xs[i])[j]? = some v → w.cell? ⟨b, off + i * sz + j, none⟩ = some v := by
  obtain ⟨b, off, hA, hb, _⟩ := h 0 xs[0] (List.getElem?_eq_getElem h0)
  refine ⟨b, off, hA, hb, fun i hi j v hv => ?_⟩
  obtain ⟨b', off', hA', _, hc⟩ := h i xs[i] (List.getElem?_eq_getElem hi)
  rw [hA] at hA'
  cases hA'
  exact hc j v hv
end

def doClashV (i : Int) (d : Bool) (a b : Int) (i' : Int) (d' : Bool) (a' b' : Int) (g : Int) : Bool × Bool := if pasB i d a b = true ∧ pasB i' d' a' b' = true ∧ i ≠ i' ∧ gapB g = true then (clashB i d a b i' d' a' b' g, true) else (false, false)
def eqPasB (i : Int) (d : Bool) (a b : Int) (i' : Int) (d' : Bool) (a' b' : Int) : Bool := decide (i = i' ∧ d = d' ∧ a = a' ∧ b = b')

end Go.Proofs.Ytgjbdcalmodhpaa
