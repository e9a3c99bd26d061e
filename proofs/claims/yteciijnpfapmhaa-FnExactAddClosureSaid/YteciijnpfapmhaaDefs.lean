import Derived.Test.YteciijnpfapmhaaSl
namespace Go.Proofs.Yteciijnpfapmhaa
set_option linter.unusedSimpArgs false
set_option linter.unusedVariables false
open Go.RowKit

def goodI (a b : Int) : Bool := decide (0 ≤ a ∧ a ≤ b ∧ b ≤ 9999)
theorem goodI_bd {a b : Int} (h : goodI a b = true) : 0 ≤ a ∧ a ≤ b ∧ b ≤ 9999 := by simpa [goodI] using h
def minB (a : Int) : Bool := decide (0 ≤ a ∧ a ≤ 9999)
theorem minB_bd {a : Int} (h : minB a = true) : 0 ≤ a ∧ a ≤ 9999 := by simpa [minB] using h
def inB (a b c : Int) : Bool := decide (b ≤ a ∧ a ≤ c)
theorem inB_bd {a b c : Int} (h : inB a b c = true) : b ≤ a ∧ a ≤ c := by simpa [inB] using h

end Go.Proofs.Yteciijnpfapmhaa
