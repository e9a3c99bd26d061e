import Derived.Test.YtipipicfkjigdaaLift2
import Derived.Test.YtipipicfkjigdaaGDefs
import Derived.Deep.Slices
namespace Go.Proofs.Ytipipicfkjigdaa
set_option linter.unusedSimpArgs false
set_option linter.unusedVariables false
open Go.RowKit Go.ChangeShapes Go.WideShapes Go.ChangeAt Go.Joins

set_option maxRecDepth 100000 in
theorem el_In_3 {H : Type} {enc : TypeId × Value → H} {w : World} {base : Nat} {spare : Nat → Bool} {held : Bool} : ∀ n cs x, DataW.trod enc Try.prog w base spare held n 3 cs = some x → ∃ a, cs = cIn a := by
  intro n cs x h
  obtain ⟨a, e, _, _⟩ := DataW.trod_int Try.underlying3 h
  exact ⟨a, e⟩

end Go.Proofs.Ytipipicfkjigdaa
