import Derived.Test.YtgjbdcalmodhpaaPN
import Derived.Test.YtgjbdcalmodhpaaSl
import Derived.Test.YtgjbdcalmodhpaaD7
namespace Go.Proofs.Ytgjbdcalmodhpaa
set_option linter.unusedSimpArgs false
set_option linter.unusedVariables false
open Go.RowKit

def cPr (x : (Int × Int)) : List Value := [.int .i64 (x.1), .int .i64 (x.2)]
theorem cPr_len (x : (Int × Int)) : (cPr x).length = 2 := rfl

def mkPr (n : Nat) (k : Int) : List (Int × Int) := (List.range n).map fun (i : Nat) => (k + 2 * (i : Int), k + 2 * (i : Int) + 1)

theorem mkPr_len (n : Nat) (k : Int) : (mkPr n k).length = n := by simp [mkPr]
theorem mkPr_at (n : Nat) (k : Int) (j : Nat) (h : j < n) (h' : j < (mkPr n k).length) : (mkPr n k)[j] = (k + 2 * (j : Int), k + 2 * (j : Int) + 1) := by simp [mkPr]

theorem mkPr_snoc (j : Nat) (k : Int) : mkPr (j + 1) k = mkPr j k ++ [(k + 2 * (j : Int), k + 2 * (j : Int) + 1)] := by simp [mkPr, List.range_succ]

theorem news_Pr (w : World) (g : Nat) (x : (Int × Int)) (h0 : w.cell? ⟨g, 0, none⟩ = some (.int .i64 (x.1))) (h1 : w.cell? ⟨g, 1, none⟩ = some (.int .i64 (x.2))) : ∀ j u, (cPr x)[j]? = some u → w.cell? ⟨g, j, none⟩ = some u := by
  intro j u hu
  match j, hu with
  | 0, hu => cases hu; exact h0
  | 1, hu => cases hu; exact h1
  | j + 2, hu => simp [cPr] at hu

theorem one_Pr : ∀ x, ∀ u ∈ cPr x, u.oneCell' = true := by
  intro x u hu
  simp [cPr] at hu
  rcases hu with rfl | rfl <;> rfl

def rowP (a : Int × Bool × Int × Int) (ys : List (Int × Bool × Int × Int)) (g : Int) : List (Int × Int) := (ys.filter fun b => clash a b g).map fun b => (a.1, b.1)
def pairsTo (xs : List (Int × Bool × Int × Int)) (g : Int) (k : Nat) : List (Int × Int) := (List.range k).flatMap fun i => match xs[i]? with | some a => rowP a (xs.drop (i + 1)) g | none => []
def pairsV (xs : List (Int × Bool × Int × Int)) (g : Int) : List (Int × Int) := pairsTo xs g xs.length
theorem pairsTo_zero (xs : List (Int × Bool × Int × Int)) (g : Int) : pairsTo xs g 0 = [] := rfl
theorem pairsTo_succ (xs : List (Int × Bool × Int × Int)) (g : Int) (k : Nat) (h : k < xs.length) : pairsTo xs g (k + 1) = pairsTo xs g k ++ rowP xs[k] (xs.drop (k + 1)) g := by
  unfold pairsTo
  rw [List.range_succ, List.flatMap_append]
  simp [h]
theorem rowP_snoc (a : Int × Bool × Int × Int) (ys : List (Int × Bool × Int × Int)) (g : Int) (m : Nat) (h : m < ys.length) : rowP a (ys.take (m + 1)) g = rowP a (ys.take m) g ++ (if clash a ys[m] g = true then [(a.1, ys[m].1)] else []) := by
  unfold rowP
  rw [List.take_succ_eq_append_getElem h, List.filter_append, List.map_append]
  by_cases hc : clash a ys[m] g = true
  · simp [hc]
  · simp [hc]
theorem rowP_len (a : Int × Bool × Int × Int) (ys : List (Int × Bool × Int × Int)) (g : Int) : (rowP a ys g).length ≤ ys.length := by
  unfold rowP
  rw [List.length_map]
  exact List.length_filter_le _ _
theorem pairsTo_len (xs : List (Int × Bool × Int × Int)) (g : Int) : ∀ k, (pairsTo xs g k).length ≤ xs.length * k
  | 0 => by simp [pairsTo]
  | k + 1 => by
    have ih := pairsTo_len xs g k
    unfold pairsTo at *
    rw [List.range_succ, List.flatMap_append, List.length_append, Nat.mul_succ]
    have : (List.flatMap (fun i => match xs[i]? with | some a => rowP a (xs.drop (i + 1)) g | none => []) [k]).length ≤ xs.length := by
      simp only [List.flatMap_cons, List.flatMap_nil, List.append_nil]
      split
      · refine Nat.le_trans (rowP_len _ _ _) ?_
        simp
      · simp
    omega
theorem pairsTo_len6 {xs : List (Int × Bool × Int × Int)} (h : xs.length ≤ 6) (g : Int) (k : Nat) : (pairsTo xs g k).length ≤ 6 * k := Nat.le_trans (pairsTo_len xs g k) (Nat.mul_le_mul_right k h)
def clashV (xs : List (Int × Bool × Int × Int)) (g : Int) : List (Int × Int) × Bool := if vB pOk pLt 6 xs = true ∧ gapB g = true then (pairsV xs g, true) else ([], false)
theorem clashV_len (xs : List (Int × Bool × Int × Int)) (g : Int) : (clashV xs g).1.length ≤ 36 := by
  unfold clashV
  by_cases h : vB pOk pLt 6 xs = true ∧ gapB g = true
  · rw [if_pos h]
    have h1 := vB_len h.1
    have h2 := pairsTo_len6 h1 g xs.length
    unfold pairsV
    simp only
    omega
  · rw [if_neg h]; simp
theorem FreshA.le_cap {α : Type} {cf : α → List Value} {sz : Nat} {T : TypeId} {B cap : Nat} {w : World} {A : Option Addr} {xs : List α} (h : FreshA cf sz T B w A cap xs) : xs.length ≤ cap := by
  rcases h with ⟨_, rfl, _⟩ | ⟨_, _, _, _, _, _, h, _⟩
  · simp
  · exact h

theorem info_Pr : (Try.prog.info? 65).map (fun i => (i.zero, i.size, i.bytes)) = some (some (.agg #[.int .i64 0, .int .i64 0]), 2, 16) := by kernel_rfl

end Go.Proofs.Ytgjbdcalmodhpaa
