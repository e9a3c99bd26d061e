import Derived.Test.YtgjbdcalmodhpaaPDefs
namespace Go.Proofs.Ytgjbdcalmodhpaa
set_option linter.unusedSimpArgs false
set_option linter.unusedVariables false
open Go.RowKit

def doClashV (i : Int) (d : Bool) (a b : Int) (i' : Int) (d' : Bool) (a' b' : Int) (g : Int) : Bool × Bool := if pasB i d a b = true ∧ pasB i' d' a' b' = true ∧ i ≠ i' ∧ gapB g = true then (clashB i d a b i' d' a' b' g, true) else (false, false)
def eqPasB (i : Int) (d : Bool) (a b : Int) (i' : Int) (d' : Bool) (a' b' : Int) : Bool := decide (i = i' ∧ d = d' ∧ a = a' ∧ b = b')

end Go.Proofs.Ytgjbdcalmodhpaa
