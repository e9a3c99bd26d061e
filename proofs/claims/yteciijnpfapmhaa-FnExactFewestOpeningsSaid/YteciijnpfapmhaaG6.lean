import Derived.Test.YteciijnpfapmhaaBrDefs
namespace Go.Proofs.Yteciijnpfapmhaa
set_option linter.unusedSimpArgs false
set_option linter.unusedVariables false
open Go.RowKit

def lastI (r : Option Int) : Int := match r with | some u => u | none => -1

end Go.Proofs.Yteciijnpfapmhaa
