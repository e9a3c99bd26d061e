import Derived.Test.YtpaclngjmdacjaaE0
namespace Go.Proofs.Ytpaclngjmdacjaa
set_option linter.unusedSimpArgs false
set_option linter.unusedVariables false
open Go.RowKit

def woV (l h v : Int) (fs : List Int) (ps : List (Int × Int × Int)) (i : Int) : (Int × Int × Int × List Int × List (Int × Int × Int)) × Bool := if taskB l h v fs ps = true ∧ 0 ≤ i ∧ i < ps.length then ((l, h, v, fs, ps.take i.toNat ++ ps.drop (i.toNat + 1)), true) else ((0, 0, 0, [], []), false)
theorem taskB_sz {l h v : Int} {fs : List Int} {ps : List (Int × Int × Int)} (e : taskB l h v fs ps = true) : (0 ≤ l ∧ l ≤ v ∧ v ≤ h ∧ h ≤ 500) ∧ ps.length ≤ 2 ∧ 1 ≤ fs.length ∧ fs.length ≤ 5 := by
  have := headB_bd (taskB_head e)
  omega
theorem FreshA.newh {α : Type} {cf : α → List Value} {sz : Nat} {T : TypeId} {B g : Nat} {w : World} (hg : w.heap.size = g) (hB : B ≤ g) : FreshA cf sz T B (w.alloc (.cells #[] T)) (some ⟨g, 0, none⟩) 0 ([] : List α) := by
  subst hg
  exact FreshA.new hB

end Go.Proofs.Ytpaclngjmdacjaa
