import Derived.Test.YthlmeofjjmfpnaaBase
namespace Go.Proofs.Ythlmeofjjmfpnaa
set_option linter.unusedSimpArgs false
set_option linter.unusedVariables false
open Go.RowKit

def goodI (a b : Int) : Bool := decide (0 ≤ a ∧ a ≤ b ∧ b ≤ 9999)
theorem goodI_bd {a b : Int} (h : goodI a b = true) : 0 ≤ a ∧ a ≤ b ∧ b ≤ 9999 := by simpa [goodI] using h
def legB (a b : Int) : Bool := decide (0 ≤ a ∧ a ≤ b ∧ b ≤ 1000)
theorem legB_bd {a b : Int} (h : legB a b = true) : 0 ≤ a ∧ a ≤ b ∧ b ≤ 1000 := by simpa [legB] using h
def minB (a : Int) : Bool := decide (0 ≤ a ∧ a ≤ 9999)
theorem minB_bd {a : Int} (h : minB a = true) : 0 ≤ a ∧ a ≤ 9999 := by simpa [minB] using h
def inB (a b c : Int) : Bool := decide (b ≤ a ∧ a ≤ c)
def asI (a b : Int) : (Int × Int) × Bool := if goodI a b = true then ((a, b), true) else ((0, 0), false)
def coverI (a b c d : Int) : (Int × Int) × Bool := if goodI a b = true ∧ goodI c d = true then ((min a c, max b d), true) else ((0, 0), false)
def commonI (a b c d : Int) : (Int × Int) × Bool := if goodI a b = true ∧ goodI c d = true then asI (max a c) (min b d) else ((0, 0), false)
def afterI (a b l m : Int) : (Int × Int) × Bool := if goodI a b = true ∧ legB l m = true then asI (a + l) (b + m) else ((0, 0), false)
def beforeI (a b l m : Int) : (Int × Int) × Bool := if goodI a b = true ∧ legB l m = true then asI (max 0 (a - m)) (b - l) else ((0, 0), false)
def notBefI (a b m : Int) : (Int × Int) × Bool := if goodI a b = true ∧ minB m = true then ((max a m, max b m), true) else ((0, 0), false)
def inTimeI (a b m : Int) : Int × Bool := if goodI a b = true ∧ minB m = true then (if b ≤ m then (2, true) else if a ≤ m then (1, true) else (0, true)) else (0, false)
theorem coverI_as {a b c d : Int} (h : goodI a b = true) (h' : goodI c d = true) : asI (min a c) (max b d) = ((min a c, max b d), true) := by
  have := goodI_bd h
  have := goodI_bd h'
  unfold asI
  rw [if_pos (by simp [goodI]; omega)]
theorem notBefI_as {a b m : Int} (h : goodI a b = true) (h' : minB m = true) : asI (max a m) (max b m) = ((max a m, max b m), true) := by
  have := goodI_bd h
  have := minB_bd h'
  unfold asI
  rw [if_pos (by simp [goodI]; omega)]
def eqI (a b c d : Int) : Bool := decide (a = c ∧ b = d)
theorem eqI_self (a b : Int) : eqI a b a b = true := by simp [eqI]

end Go.Proofs.Ythlmeofjjmfpnaa
