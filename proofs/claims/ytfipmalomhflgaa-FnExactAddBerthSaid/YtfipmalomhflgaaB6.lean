import Derived.Test.YtfipmalomhflgaaBDefs
namespace Go.Proofs.Ytfipmalomhflgaa
set_option linter.unusedSimpArgs false
set_option linter.unusedVariables false
open Go.RowKit

def hourOk (q : Int) (xs : List (Int × Int × Int × Int × Int)) (h : Int) : Bool := berV q xs && inB h 0 499
theorem hourOk_bd {q : Int} {xs : List (Int × Int × Int × Int × Int)} {h : Int} (e : hourOk q xs h = true) : berV q xs = true ∧ 0 ≤ h ∧ h ≤ 499 := by
  simp only [hourOk, Bool.and_eq_true] at e
  exact ⟨e.1, inB_bd e.2⟩
theorem freeV_no {q : Int} {xs : List (Int × Int × Int × Int × Int)} {h : Int} (e : hourOk q xs h = false) : freeV q xs h = ([], false) := by
  unfold freeV
  rw [if_neg (fun a => ?_)]
  simp [hourOk, a.1, a.2] at e
theorem freeV_yes {q : Int} {xs : List (Int × Int × Int × Int × Int)} {h : Int} (e : hourOk q xs h = true) : freeV q xs h = (freeTo xs h q.toNat, true) := by
  unfold freeV
  simp only [hourOk, Bool.and_eq_true] at e
  rw [if_pos e]

theorem FreshA.emp {α : Type} {cf : α → List Value} {sz : Nat} {T : TypeId} {w w' : World} (hb : Below (w.heap.size + 1) (w.alloc (.cells #[] T)) w') : FreshA cf sz T w.heap.size w' (some ⟨w.heap.size, 0, none⟩) 0 ([] : List α) := by
  refine .inr ⟨w.heap.size, rfl, Nat.le_refl _, #[], ?_, by simp, Nat.le_refl _, by unfold maxLen; omega, fun i x h => by simp at h⟩
  rw [hb.block _ (by omega)]
  exact heap_alloc_new _ _
theorem FreshA.new {α : Type} {cf : α → List Value} {sz : Nat} {T : TypeId} {B : Nat} {w : World} (hB : B ≤ w.heap.size) : FreshA cf sz T B (w.alloc (.cells #[] T)) (some ⟨w.heap.size, 0, none⟩) 0 ([] : List α) :=
  .inr ⟨w.heap.size, rfl, hB, #[], heap_alloc_new _ _, by simp, Nat.le_refl _, by unfold maxLen; omega, fun i x h => by simp at h⟩

end Go.Proofs.Ytfipmalomhflgaa
