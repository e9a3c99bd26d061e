import Derived.Test.YtgjbdcalmodhpaaPM
namespace Go.Proofs.Ytgjbdcalmodhpaa
set_option linter.unusedSimpArgs false
set_option linter.unusedVariables false
open Go.RowKit

def delP (i : Int) (d : Bool) (a b : Int) (g : Int) (y : Int) (x : Int × Bool × Int × Int) : Bool := clashB x.1 x.2.1 x.2.2.1 x.2.2.2 i d (a + y) (b + y) g
def delA (xs : List (Int × Bool × Int × Int)) (i : Int) (d : Bool) (a b : Int) (g y : Int) : Bool := xs.any (delP i d a b g y)
def sameP (i : Int) (x : Int × Bool × Int × Int) : Bool := decide (x.1 = i)
def bdP (x : Int × Bool × Int × Int) : Prop := 0 ≤ x.2.2.1 ∧ x.2.2.1 ≤ 9999 ∧ 0 ≤ x.2.2.2 ∧ x.2.2.2 ≤ 9999
/-- the smallest delay, and whether there is one -/
def smF (xs : List (Int × Bool × Int × Int)) (i : Int) (d : Bool) (a b : Int) (g : Int) : Option Nat := (List.range (10000 - b).toNat).find? (fun y : Nat => !delA xs i d a b g y)
def smD (xs : List (Int × Bool × Int × Int)) (i : Int) (d : Bool) (a b : Int) (g : Int) : Int × Bool := match smF xs i d a b g with | some y => ((y : Int), true) | none => (0, false)
theorem smF_hit {xs : List (Int × Bool × Int × Int)} {i : Int} {d : Bool} {a b g : Int} {y : Nat} (hy : b + y ≤ 9999) (hlt : ∀ z : Nat, z < y → delA xs i d a b g z = true) (hf : delA xs i d a b g y = false) : smF xs i d a b g = some y := by
  unfold smF
  rw [List.find?_range_eq_some]
  exact ⟨by simp [hf], List.mem_range.2 (by omega), fun z hz => by simp [hlt z hz]⟩
theorem smF_none {xs : List (Int × Bool × Int × Int)} {i : Int} {d : Bool} {a b g : Int} (hlt : ∀ z : Nat, b + z ≤ 9999 → delA xs i d a b g z = true) : smF xs i d a b g = none := by
  unfold smF
  rw [List.find?_eq_none]
  intro z hz
  rw [List.mem_range] at hz
  simp [hlt z (by omega)]
theorem smF_some {xs : List (Int × Bool × Int × Int)} {i : Int} {d : Bool} {a b g : Int} {y : Nat} (h : smF xs i d a b g = some y) : b + y ≤ 9999 ∧ delA xs i d a b g y = false := by
  unfold smF at h
  rw [List.find?_range_eq_some] at h
  obtain ⟨h1, h2, _⟩ := h
  rw [List.mem_range] at h2
  exact ⟨by omega, by simpa using h1⟩
def delayV (xs : List (Int × Bool × Int × Int)) (i : Int) (d : Bool) (a b : Int) (g : Int) : Int × Bool := if vB pOk pLt 6 xs = true ∧ pasB i d a b = true ∧ gapB g = true ∧ xs.any (sameP i) = false then smD xs i d a b g else (0, false)
theorem vB_bdP {xs : List (Int × Bool × Int × Int)} (h : vB pOk pLt 6 xs = true) : ∀ k (hk : k < xs.length), bdP xs[k] := by
  intro k hk
  have := vB_at h k hk
  generalize xs[k] = x at *
  have := pasB_bd (show pasB x.1 x.2.1 x.2.2.1 x.2.2.2 = true from this)
  unfold bdP
  omega
def later (x : Int × Bool × Int × Int) (y : Int) : Int × Bool × Int × Int := (x.1, x.2.1, x.2.2.1 + y, x.2.2.2 + y)
/-- one passage more, delayed in turn -/
def turnS (g : Int) (o : Option (List (Int × Bool × Int × Int))) (x : Int × Bool × Int × Int) : Option (List (Int × Bool × Int × Int)) := o.bind fun out => (smF out x.1 x.2.1 x.2.2.1 x.2.2.2 g).map fun y => out ++ [later x y]
def turnF (g : Int) (xs : List (Int × Bool × Int × Int)) : Option (List (Int × Bool × Int × Int)) := xs.foldl (turnS g) (some [])
theorem turnS_none (g : Int) (xs : List (Int × Bool × Int × Int)) : xs.foldl (turnS g) none = none := by
  induction xs with
  | nil => rfl
  | cons x xs ih => exact ih
theorem turnF_bad {g : Int} {xs : List (Int × Bool × Int × Int)} {k : Nat} {out : List (Int × Bool × Int × Int)} (hk : k < xs.length) (h : turnF g (xs.take k) = some out) (hn : smF out xs[k].1 xs[k].2.1 xs[k].2.2.1 xs[k].2.2.2 g = none) : turnF g xs = none := by
  have e : xs = xs.take k ++ xs[k] :: xs.drop (k + 1) := by rw [List.getElem_cons_drop, List.take_append_drop]
  unfold turnF at h ⊢
  rw [e, List.foldl_append, h, List.foldl_cons]
  have : turnS g (some out) xs[k] = none := by simp [turnS, hn]
  rw [this]
  exact turnS_none g _
theorem turnF_step {g : Int} {xs : List (Int × Bool × Int × Int)} {k y : Nat} {out : List (Int × Bool × Int × Int)} (hk : k < xs.length) (h : turnF g (xs.take k) = some out) (hn : smF out xs[k].1 xs[k].2.1 xs[k].2.2.1 xs[k].2.2.2 g = some y) : turnF g (xs.take (k + 1)) = some (out ++ [later xs[k] y]) := by
  unfold turnF at h ⊢
  rw [List.take_succ_eq_append_getElem hk, List.foldl_append, h]
  simp [turnS, hn]
def turnV (xs : List (Int × Bool × Int × Int)) (g : Int) : List (Int × Bool × Int × Int) × Bool := if vB pOk pLt 6 xs = true ∧ gapB g = true then (match turnF g xs with | some l => (l, true) | none => ([], false)) else ([], false)

end Go.Proofs.Ytgjbdcalmodhpaa
