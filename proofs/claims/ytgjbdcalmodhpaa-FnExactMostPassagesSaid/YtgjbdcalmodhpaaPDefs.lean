import Derived.Test.YtgjbdcalmodhpaaDefs
import Derived.Test.YtgjbdcalmodhpaaVL
namespace Go.Proofs.Ytgjbdcalmodhpaa
set_option linter.unusedSimpArgs false
set_option linter.unusedVariables false
open Go.RowKit

def cPas (x : (Int × Bool × Int × Int)) : List Value := [.int .i64 (x.1), .bool (x.2.1), .int .i64 (x.2.2.1), .int .i64 (x.2.2.2)]
theorem cPas_len (x : (Int × Bool × Int × Int)) : (cPas x).length = 4 := rfl

def mkPas (n : Nat) (k : Int) : List (Int × Bool × Int × Int) := (List.range n).map fun (i : Nat) => (k + 4 * (i : Int), ((k + 4 * (i : Int) + 1) % 3 == 0), k + 4 * (i : Int) + 2, k + 4 * (i : Int) + 3)

theorem mkPas_len (n : Nat) (k : Int) : (mkPas n k).length = n := by simp [mkPas]
theorem mkPas_at (n : Nat) (k : Int) (j : Nat) (h : j < n) (h' : j < (mkPas n k).length) : (mkPas n k)[j] = (k + 4 * (j : Int), ((k + 4 * (j : Int) + 1) % 3 == 0), k + 4 * (j : Int) + 2, k + 4 * (j : Int) + 3) := by simp [mkPas]

theorem mkPas_snoc (j : Nat) (k : Int) : mkPas (j + 1) k = mkPas j k ++ [(k + 4 * (j : Int), ((k + 4 * (j : Int) + 1) % 3 == 0), k + 4 * (j : Int) + 2, k + 4 * (j : Int) + 3)] := by simp [mkPas, List.range_succ]

def pasB (i : Int) (_d : Bool) (a b : Int) : Bool := decide (1 ≤ i ∧ i ≤ 99 ∧ 0 ≤ a ∧ a < b ∧ b ≤ 9999)
theorem pasB_bd {i a b : Int} {d : Bool} (h : pasB i d a b = true) : 1 ≤ i ∧ i ≤ 99 ∧ 0 ≤ a ∧ a < b ∧ b ≤ 9999 := by simpa [pasB] using h
def gapB (g : Int) : Bool := decide (0 ≤ g ∧ g ≤ 30)
theorem gapB_bd {g : Int} (h : gapB g = true) : 0 ≤ g ∧ g ≤ 30 := by simpa [gapB] using h
def clashB (i : Int) (d : Bool) (a b : Int) (i' : Int) (d' : Bool) (a' b' : Int) (g : Int) : Bool :=
  if d = d' then (if a' < a ∨ a' = a ∧ i' < i then decide (a - a' < g ∨ b - b' < g) else decide (a' - a < g ∨ b' - b < g)) else decide (max a a' < min b b')
def pOk (p : Int × Bool × Int × Int) : Bool := pasB p.1 p.2.1 p.2.2.1 p.2.2.2
def pLt (p q : Int × Bool × Int × Int) : Bool := decide (p.1 < q.1)
def clash (p q : Int × Bool × Int × Int) (g : Int) : Bool := clashB p.1 p.2.1 p.2.2.1 p.2.2.2 q.1 q.2.1 q.2.2.1 q.2.2.2 g

end Go.Proofs.Ytgjbdcalmodhpaa
