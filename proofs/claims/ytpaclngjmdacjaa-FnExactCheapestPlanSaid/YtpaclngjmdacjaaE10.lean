import Derived.Test.YtpaclngjmdacjaaE0
namespace Go.Proofs.Ytpaclngjmdacjaa
set_option linter.unusedSimpArgs false
set_option linter.unusedVariables false
open Go.RowKit

def outL (l h x : Int) : Bool := !inB x l h

end Go.Proofs.Ytpaclngjmdacjaa
