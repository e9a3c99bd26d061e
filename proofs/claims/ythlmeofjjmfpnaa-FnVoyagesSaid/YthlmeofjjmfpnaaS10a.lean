import Derived.Test.YthlmeofjjmfpnaaS6a
namespace Go.Proofs.Ythlmeofjjmfpnaa
set_option linter.unusedSimpArgs false
set_option linter.unusedVariables false
open Go.RowKit

def narP (a b c d : Int) (s : Int × Int) : Int × Int := (max a (max 0 (c - s.2)), min b (d - s.1))
def narQ (a b c d : Int) (s : Int × Int) : Int × Int := (max c (a + s.1), min d (b + s.2))
def narrowV (a b : Int) (xs : List (Int × Int)) (c d : Int) : ((Int × Int) × (Int × Int)) × Bool := if goodI a b = true ∧ voyB xs = true ∧ goodI c d = true ∧ goodI (max a (max 0 (c - (wholeW xs).2))) (min b (d - (wholeW xs).1)) = true ∧ goodI (max c (a + (wholeW xs).1)) (min d (b + (wholeW xs).2)) = true then (((max a (max 0 (c - (wholeW xs).2)), min b (d - (wholeW xs).1)), (max c (a + (wholeW xs).1), min d (b + (wholeW xs).2))), true) else (((0, 0), (0, 0)), false)

end Go.Proofs.Ythlmeofjjmfpnaa
