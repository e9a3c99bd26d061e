import Derived.Test.YteciijnpfapmhaaK0
namespace Go.Proofs.Yteciijnpfapmhaa
set_option linter.unusedSimpArgs false
set_option linter.unusedVariables false
open Go.RowKit

theorem FreshA.emp2 {α : Type} {cf : α → List Value} {sz : Nat} {T : TypeId} {w w' : World} {c : Array Value} {t : TypeId} (hb : Below (w.heap.size + 2) ((w.alloc (.cells c t)).alloc (.cells #[] T)) w') : FreshA cf sz T (w.heap.size + 1) w' (some ⟨w.heap.size + 1, 0, none⟩) 0 ([] : List α) := by
  have h := FreshA.emp (cf := cf) (sz := sz) (w := w.alloc (.cells c t)) (w' := w') (T := T) (by simpa using hb)
  simpa using h

end Go.Proofs.Yteciijnpfapmhaa
