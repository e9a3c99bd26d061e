import Derived.Test.YtipipicfkjigdaaVL
import Derived.Test.YtipipicfkjigdaaGDefs
import Derived.Test.YtipipicfkjigdaaSl
namespace Go.Proofs.Ytipipicfkjigdaa
set_option linter.unusedSimpArgs false
set_option linter.unusedVariables false
open Go.RowKit

def strongL (xs : List (Int × Int × Int)) (p : Int) : List Int := (xs.filter fun x => decide (p ≤ x.2.2)).map fun x => x.1
theorem strongL_snoc (xs : List (Int × Int × Int)) (p : Int) (k : Nat) (h : k < xs.length) : strongL (xs.take (k + 1)) p = strongL (xs.take k) p ++ (if p ≤ xs[k].2.2 then [xs[k].1] else []) := by
  unfold strongL
  rw [List.take_succ_eq_append_getElem h, List.filter_append, List.map_append]
  by_cases hc : p ≤ xs[k].2.2
  · simp [hc]
  · simp [hc]
theorem strongL_len (xs : List (Int × Int × Int)) (p : Int) : (strongL xs p).length ≤ xs.length := by
  unfold strongL
  rw [List.length_map]
  exact List.length_filter_le _ _
def strongV (xs : List (Int × Int × Int)) (p : Int) : List Int × Bool := if vB tugOk tugLt 4 xs = true ∧ inB p 1 9 = true then (strongL xs p, true) else ([], false)
theorem strongV_len (xs : List (Int × Int × Int)) (p : Int) : (strongV xs p).1.length ≤ 4 := by
  unfold strongV
  by_cases h : vB tugOk tugLt 4 xs = true ∧ inB p 1 9 = true
  · rw [if_pos h]
    exact Nat.le_trans (strongL_len xs p) (vB_len h.1)
  · rw [if_neg h]; simp
/-- the nearest of the tugs that are strong enough: (Id, place, power), or (0, 0, 0) -/
def absI (a : Int) : Int := max a (-a)
def nearS (f p : Int) (b x : Int × Int × Int) : Int × Int × Int := if p ≤ x.2.2 ∧ (b.1 = 0 ∨ absI (x.2.1 - f) < absI (b.2.1 - f)) then x else b
def nearF (xs : List (Int × Int × Int)) (f p : Int) : Int × Int × Int := xs.foldl (nearS f p) (0, 0, 0)
theorem foldl_snoc {α β : Type} (f : β → α → β) (b : β) (xs : List α) (k : Nat) (h : k < xs.length) : (xs.take (k + 1)).foldl f b = f ((xs.take k).foldl f b) xs[k] := by
  rw [List.take_succ_eq_append_getElem h, List.foldl_append]; rfl
def nearV (xs : List (Int × Int × Int)) (i f t p r : Int) : Int × Bool := if vB tugOk tugLt 4 xs = true ∧ jobB i f t p r = true then ((nearF xs f p).1, decide (0 < (nearF xs f p).1)) else (0, false)
def nearOk (b : Int × Int × Int) : Prop := 0 ≤ b.1 ∧ b.1 ≤ 99 ∧ 0 ≤ b.2.1 ∧ b.2.1 ≤ 600
theorem nearS_ok {f p : Int} {b x : Int × Int × Int} (h : nearOk b) (hx : tugOk x = true) : nearOk (nearS f p b x) := by
  have := tugOk_bd hx
  unfold nearS
  split
  · unfold nearOk; omega
  · exact h

theorem FreshA.emp {α : Type} {cf : α → List Value} {sz : Nat} {T : TypeId} {w w' : World} (hb : Below (w.heap.size + 1) (w.alloc (.cells #[] T)) w') : FreshA cf sz T w.heap.size w' (some ⟨w.heap.size, 0, none⟩) 0 ([] : List α) := by
  refine .inr ⟨w.heap.size, rfl, Nat.le_refl _, #[], ?_, by simp, Nat.le_refl _, by unfold maxLen; omega, fun i x h => by simp at h⟩
  rw [hb.block _ (by omega)]
  exact heap_alloc_new _ _
theorem FreshA.new {α : Type} {cf : α → List Value} {sz : Nat} {T : TypeId} {B : Nat} {w : World} (hB : B ≤ w.heap.size) : FreshA cf sz T B (w.alloc (.cells #[] T)) (some ⟨w.heap.size, 0, none⟩) 0 ([] : List α) :=
  .inr ⟨w.heap.size, rfl, hB, #[], heap_alloc_new _ _, by simp, Nat.le_refl _, by unfold maxLen; omega, fun i x h => by simp at h⟩

theorem info_In : (Try.prog.info? 3).map (fun i => (i.zero, i.size, i.bytes)) = some (some (.int .i64 0), 1, 8) := by kernel_rfl

end Go.Proofs.Ytipipicfkjigdaa
