import Derived.Test.YtipipicfkjigdaaDefs
import Derived.Test.YtipipicfkjigdaaVL
namespace Go.Proofs.Ytipipicfkjigdaa
set_option linter.unusedSimpArgs false
set_option linter.unusedVariables false
open Go.RowKit

def cTug (x : (Int × Int × Int)) : List Value := [.int .i64 (x.1), .int .i64 (x.2.1), .int .i64 (x.2.2)]
theorem cTug_len (x : (Int × Int × Int)) : (cTug x).length = 3 := rfl

def mkTug (n : Nat) (k : Int) : List (Int × Int × Int) := (List.range n).map fun (i : Nat) => (k + 3 * (i : Int), k + 3 * (i : Int) + 1, k + 3 * (i : Int) + 2)

theorem mkTug_len (n : Nat) (k : Int) : (mkTug n k).length = n := by simp [mkTug]
theorem mkTug_at (n : Nat) (k : Int) (j : Nat) (h : j < n) (h' : j < (mkTug n k).length) : (mkTug n k)[j] = (k + 3 * (j : Int), k + 3 * (j : Int) + 1, k + 3 * (j : Int) + 2) := by simp [mkTug]

theorem mkTug_snoc (j : Nat) (k : Int) : mkTug (j + 1) k = mkTug j k ++ [(k + 3 * (j : Int), k + 3 * (j : Int) + 1, k + 3 * (j : Int) + 2)] := by simp [mkTug, List.range_succ]

theorem news_Tug (w : World) (g : Nat) (x : (Int × Int × Int)) (h0 : w.cell? ⟨g, 0, none⟩ = some (.int .i64 (x.1))) (h1 : w.cell? ⟨g, 1, none⟩ = some (.int .i64 (x.2.1))) (h2 : w.cell? ⟨g, 2, none⟩ = some (.int .i64 (x.2.2))) : ∀ j u, (cTug x)[j]? = some u → w.cell? ⟨g, j, none⟩ = some u := by
  intro j u hu
  match j, hu with
  | 0, hu => cases hu; exact h0
  | 1, hu => cases hu; exact h1
  | 2, hu => cases hu; exact h2
  | j + 3, hu => simp [cTug] at hu

theorem one_Tug : ∀ x, ∀ u ∈ cTug x, u.oneCell' = true := by
  intro x u hu
  simp [cTug] at hu
  rcases hu with rfl | rfl | rfl <;> rfl

def cJob (x : (Int × Int × Int × Int × Int)) : List Value := [.int .i64 (x.1), .int .i64 (x.2.1), .int .i64 (x.2.2.1), .int .i64 (x.2.2.2.1), .int .i64 (x.2.2.2.2)]
theorem cJob_len (x : (Int × Int × Int × Int × Int)) : (cJob x).length = 5 := rfl

def mkJob (n : Nat) (k : Int) : List (Int × Int × Int × Int × Int) := (List.range n).map fun (i : Nat) => (k + 5 * (i : Int), k + 5 * (i : Int) + 1, k + 5 * (i : Int) + 2, k + 5 * (i : Int) + 3, k + 5 * (i : Int) + 4)

theorem mkJob_len (n : Nat) (k : Int) : (mkJob n k).length = n := by simp [mkJob]
theorem mkJob_at (n : Nat) (k : Int) (j : Nat) (h : j < n) (h' : j < (mkJob n k).length) : (mkJob n k)[j] = (k + 5 * (j : Int), k + 5 * (j : Int) + 1, k + 5 * (j : Int) + 2, k + 5 * (j : Int) + 3, k + 5 * (j : Int) + 4) := by simp [mkJob]

theorem mkJob_snoc (j : Nat) (k : Int) : mkJob (j + 1) k = mkJob j k ++ [(k + 5 * (j : Int), k + 5 * (j : Int) + 1, k + 5 * (j : Int) + 2, k + 5 * (j : Int) + 3, k + 5 * (j : Int) + 4)] := by simp [mkJob, List.range_succ]

theorem news_Job (w : World) (g : Nat) (x : (Int × Int × Int × Int × Int)) (h0 : w.cell? ⟨g, 0, none⟩ = some (.int .i64 (x.1))) (h1 : w.cell? ⟨g, 1, none⟩ = some (.int .i64 (x.2.1))) (h2 : w.cell? ⟨g, 2, none⟩ = some (.int .i64 (x.2.2.1))) (h3 : w.cell? ⟨g, 3, none⟩ = some (.int .i64 (x.2.2.2.1))) (h4 : w.cell? ⟨g, 4, none⟩ = some (.int .i64 (x.2.2.2.2))) : ∀ j u, (cJob x)[j]? = some u → w.cell? ⟨g, j, none⟩ = some u := by
  intro j u hu
  match j, hu with
  | 0, hu => cases hu; exact h0
  | 1, hu => cases hu; exact h1
  | 2, hu => cases hu; exact h2
  | 3, hu => cases hu; exact h3
  | 4, hu => cases hu; exact h4
  | j + 5, hu => simp [cJob] at hu

theorem one_Job : ∀ x, ∀ u ∈ cJob x, u.oneCell' = true := by
  intro x u hu
  simp [cJob] at hu
  rcases hu with rfl | rfl | rfl | rfl | rfl <;> rfl

def cIn (x : (Int)) : List Value := [.int .i64 (x)]
theorem cIn_len (x : (Int)) : (cIn x).length = 1 := rfl

def mkIn (n : Nat) (k : Int) : List (Int) := (List.range n).map fun (i : Nat) => (k + (i : Int))

theorem mkIn_len (n : Nat) (k : Int) : (mkIn n k).length = n := by simp [mkIn]
theorem mkIn_at (n : Nat) (k : Int) (j : Nat) (h : j < n) (h' : j < (mkIn n k).length) : (mkIn n k)[j] = (k + (j : Int)) := by simp [mkIn]

theorem mkIn_snoc (j : Nat) (k : Int) : mkIn (j + 1) k = mkIn j k ++ [(k + (j : Int))] := by simp [mkIn, List.range_succ]

theorem news_In (w : World) (g : Nat) (x : (Int)) (h0 : w.cell? ⟨g, 0, none⟩ = some (.int .i64 (x))) : ∀ j u, (cIn x)[j]? = some u → w.cell? ⟨g, j, none⟩ = some u := by
  intro j u hu
  match j, hu with
  | 0, hu => cases hu; exact h0
  | j + 1, hu => simp [cIn] at hu

theorem one_In : ∀ x, ∀ u ∈ cIn x, u.oneCell' = true := by
  intro x u hu
  simp [cIn] at hu
  subst hu
  rfl

def tugOk (x : Int × Int × Int) : Bool := inB x.1 1 99 && inB x.2.1 0 600 && inB x.2.2 1 9
def tugLt (x y : Int × Int × Int) : Bool := decide (x.1 < y.1)
def jobB (i f t p r : Int) : Bool := decide (1 ≤ i ∧ i ≤ 99 ∧ 0 ≤ f ∧ f ≤ 600 ∧ 0 ≤ t ∧ t ≤ 600 ∧ 1 ≤ p ∧ p ≤ 9 ∧ 0 ≤ r ∧ r ≤ 500)
theorem jobB_bd {i f t p r : Int} (h : jobB i f t p r = true) : 1 ≤ i ∧ i ≤ 99 ∧ 0 ≤ f ∧ f ≤ 600 ∧ 0 ≤ t ∧ t ≤ 600 ∧ 1 ≤ p ∧ p ≤ 9 ∧ 0 ≤ r ∧ r ≤ 500 := by simpa [jobB] using h
def jobOk (x : Int × Int × Int × Int × Int) : Bool := jobB x.1 x.2.1 x.2.2.1 x.2.2.2.1 x.2.2.2.2
def jobLt (x y : Int × Int × Int × Int × Int) : Bool := decide (x.1 < y.1)
def eqTugB (a b c a' b' c' : Int) : Bool := decide (a = a' ∧ b = b' ∧ c = c')
def eqJobB (a b c d e a' b' c' d' e' : Int) : Bool := decide (a = a' ∧ b = b' ∧ c = c' ∧ d = d' ∧ e = e')
theorem tugOk_bd {x : Int × Int × Int} (h : tugOk x = true) : 1 ≤ x.1 ∧ x.1 ≤ 99 ∧ 0 ≤ x.2.1 ∧ x.2.1 ≤ 600 ∧ 1 ≤ x.2.2 ∧ x.2.2 ≤ 9 := by
  simp only [tugOk, Bool.and_eq_true] at h
  have h1 := inB_bd h.1.1
  have h2 := inB_bd h.1.2
  have h3 := inB_bd h.2
  omega

end Go.Proofs.Ytipipicfkjigdaa
