import Derived.Test.YtgjbdcalmodhpaaPN
import Derived.Test.YtgjbdcalmodhpaaP7
import Derived.Test.YtgjbdcalmodhpaaSl
namespace Go.Proofs.Ytgjbdcalmodhpaa
set_option linter.unusedSimpArgs false
set_option linter.unusedVariables false
open Go.RowKit

theorem allq_snoc {α : Type} {P : α → Prop} {out : List α} {z : α} (h : ∀ q (hq : q < out.length), P out[q]) (hz : P z) : ∀ q (hq : q < (out ++ [z]).length), P (out ++ [z])[q] := by
  intro q hq
  by_cases hl : q < out.length
  · rw [List.getElem_append_left hl]; exact h q hl
  · have : q = out.length := by simp at hq; omega
    subst this
    simpa using hz
theorem FreshA.emp {α : Type} {cf : α → List Value} {sz : Nat} {T : TypeId} {w w' : World} (hb : Below (w.heap.size + 1) (w.alloc (.cells #[] T)) w') : FreshA cf sz T w.heap.size w' (some ⟨w.heap.size, 0, none⟩) 0 ([] : List α) := by
  refine .inr ⟨w.heap.size, rfl, Nat.le_refl _, #[], ?_, by simp, Nat.le_refl _, by unfold maxLen; omega, fun i x h => by simp at h⟩
  rw [hb.block _ (by omega)]
  exact heap_alloc_new _ _
theorem FreshA.new {α : Type} {cf : α → List Value} {sz : Nat} {T : TypeId} {B : Nat} {w : World} (hB : B ≤ w.heap.size) : FreshA cf sz T B (w.alloc (.cells #[] T)) (some ⟨w.heap.size, 0, none⟩) 0 ([] : List α) :=
  .inr ⟨w.heap.size, rfl, hB, #[], heap_alloc_new _ _, by simp, Nat.le_refl _, by unfold maxLen; omega, fun i x h => by simp at h⟩
theorem turnF_len (g : Int) : ∀ (xs o out : List (Int × Bool × Int × Int)), xs.foldl (turnS g) (some o) = some out → out.length = o.length + xs.length
  | [], o, out, h => by
    simp at h
    subst h
    simp
  | x :: xs, o, out, h => by
    rw [List.foldl_cons] at h
    cases hs : smF o x.1 x.2.1 x.2.2.1 x.2.2.2 g with
    | none =>
      have : turnS g (some o) x = none := by simp [turnS, hs]
      rw [this, turnS_none] at h
      cases h
    | some y =>
      have : turnS g (some o) x = some (o ++ [later x y]) := by simp [turnS, hs]
      rw [this] at h
      have := turnF_len g xs _ _ h
      rw [this]
      simp
      omega
theorem turnV_len (xs : List (Int × Bool × Int × Int)) (g : Int) : (turnV xs g).1.length ≤ 6 := by
  unfold turnV
  by_cases h : vB pOk pLt 6 xs = true ∧ gapB g = true
  · rw [if_pos h]
    cases ht : turnF g xs with
    | none => simp
    | some l =>
      have h1 := turnF_len g xs [] l ht
      have h2 := vB_len h.1
      simp at h1
      simp only
      omega
  · rw [if_neg h]; simp

theorem news_Pas (w : World) (g : Nat) (x : (Int × Bool × Int × Int)) (h0 : w.cell? ⟨g, 0, none⟩ = some (.int .i64 (x.1))) (h1 : w.cell? ⟨g, 1, none⟩ = some (.bool (x.2.1))) (h2 : w.cell? ⟨g, 2, none⟩ = some (.int .i64 (x.2.2.1))) (h3 : w.cell? ⟨g, 3, none⟩ = some (.int .i64 (x.2.2.2))) : ∀ j u, (cPas x)[j]? = some u → w.cell? ⟨g, j, none⟩ = some u := by
  intro j u hu
  match j, hu with
  | 0, hu => cases hu; exact h0
  | 1, hu => cases hu; exact h1
  | 2, hu => cases hu; exact h2
  | 3, hu => cases hu; exact h3
  | j + 4, hu => simp [cPas] at hu

theorem one_Pas : ∀ x, ∀ u ∈ cPas x, u.oneCell' = true := by
  intro x u hu
  simp [cPas] at hu
  rcases hu with rfl | rfl | rfl | rfl <;> rfl

theorem info_Pas : (Try.prog.info? 26).map (fun i => (i.zero, i.size, i.bytes)) = some (some (.agg #[.int .i64 0, .bool false, .int .i64 0, .int .i64 0]), 4, 32) := by kernel_rfl

end Go.Proofs.Ytgjbdcalmodhpaa
