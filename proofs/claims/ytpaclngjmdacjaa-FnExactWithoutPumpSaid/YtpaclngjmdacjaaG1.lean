import Derived.Test.YtpaclngjmdacjaaE0
import Derived.Test.YtpaclngjmdacjaaC1
import Derived.Test.YtpaclngjmdacjaaPush
namespace Go.Proofs.Ytpaclngjmdacjaa
set_option linter.unusedSimpArgs false
set_option linter.unusedVariables false
open Go.RowKit

theorem rds_news {α : Type} {cf : α → List Value} {sz g : Nat} {w : World} {xs : List α} (h : Rds cf sz w (some ⟨g, 0, none⟩) xs) : ∀ i (hi : i < xs.length) j u, (cf xs[i])[j]? = some u → g < w.heap.size ∧ w.cell? ⟨g, 0 + i * sz + j, none⟩ = some u := by
  intro i hi j u hu
  obtain ⟨b, off, he, hb, hc⟩ := h i xs[i] (List.getElem?_eq_getElem hi)
  cases he
  exact ⟨hb, hc j u hu⟩

set_option maxRecDepth 100000 in
set_option maxHeartbeats 4000000 in
theorem c_spec_l1Own (g : Nat) (xs : List Int) (cap : Nat) (w : World) (hr : Rds cIn 1 w (some ⟨g, 0, none⟩) xs) (hn : xs.length ≤ 1000) :
    Calls Try.prog 60 #[.slice (some ⟨g, 0, none⟩) xs.length cap] w fun e w' => ∃ A' cap', e = .returned (.slice A' xs.length cap') ∧ FreshA cIn 1 3 w.heap.size w' A' cap' xs ∧ Below w.heap.size w w' := by
  obtain ⟨i0, hI0, hI1, hI2, hI3⟩ := info_parts info_In
  have HX := hid (rds_news hr)
  clear hr
  by_cases h0 : xs.length = 0
  · obtain rfl := List.eq_nil_of_length_eq_zero h0
    clear h0 HX
    go_enter Try.func60, Try.ntmps60
    go_wp2_with (fail)
    go_ret
    exact ⟨_, _, rfl, FreshA.new (Nat.le_refl _), by (repeat' (first | exact Below.refl _ _ | assumption | refine Below.setCell ?_ ?_ _ | refine Below.drew ?_ | refine Below.alloc ?_ ?_ _ | refine Below.trans ?_ (Below.mono (by assumption) ?_) | (simp; done) | (simp; omega) | omega))⟩
  have hpos : 0 < xs.length := by omega
  clear h0
  go_enter Try.func60, Try.ntmps60
  go_wp2_with (at_builtin; refine wpList_pushes (xs := ([] : List (Int))) rfl (.tmp 3) (.tmp 4) 22 rfl 3 i0 _ 8 Try.underlying22 hI0 hI1 hI2 hI3 rfl (by decide) (fun _ => rfl) one_In 0 rfl rfl (FreshA.new (B := w.heap.size) (by first | omega | (simp; omega) | (simp at *; omega))) xs _ rfl g 0 _ rfl ?_ ?_ ?_ ?_ ?_; (exact fun p hp j u hu => (Below.cell (p := ⟨g, _, none⟩) (show Below w.heap.size w _ by (repeat' (first | exact Below.refl _ _ | assumption | refine Below.setCell ?_ ?_ _ | refine Below.drew ?_ | refine Below.alloc ?_ ?_ _ | refine Below.trans ?_ (Below.mono (by assumption) ?_) | (simp; done) | (simp; omega) | omega))) (HX.out p hp j u hu).1).trans (HX.out p hp j u hu).2); (unfold maxLen; omega); omega; (first | omega | (simp; done) | (simp; omega) | exact (show Below w.heap.size w _ by (repeat' (first | exact Below.refl _ _ | assumption | refine Below.setCell ?_ ?_ _ | refine Below.drew ?_ | refine Below.alloc ?_ ?_ _ | refine Below.trans ?_ (Below.mono (by assumption) ?_) | (simp; done) | (simp; omega) | omega))).size | (simp [go_sem]; done) | (simp [go_sem]; omega)); intro A3 cp3 w3 hF3 hg3 hat3; simp only [List.nil_append, Nat.zero_add] at hF3; have hb3 := below_of_grown (B := w.heap.size) hg3 (fun a ha => by cases ha; first | exact Nat.le_refl _ | omega | (simp; omega) | (simp at *; omega)) (by first | omega | (simp; done) | (simp; omega) | exact (show Below w.heap.size w _ by (repeat' (first | exact Below.refl _ _ | assumption | refine Below.setCell ?_ ?_ _ | refine Below.drew ?_ | refine Below.alloc ?_ ?_ _ | refine Below.trans ?_ (Below.mono (by assumption) ?_) | (simp; done) | (simp; omega) | omega))).size); have hs3 := hg3.size; (try simp at hs3); have hBB : Below w.heap.size w w3 := Below.trans (show Below w.heap.size w _ by (repeat' (first | exact Below.refl _ _ | assumption | refine Below.setCell ?_ ?_ _ | refine Below.drew ?_ | refine Below.alloc ?_ ?_ _ | refine Below.trans ?_ (Below.mono (by assumption) ?_) | (simp; done) | (simp; omega) | omega))) hb3)
  go_ret
  exact ⟨_, _, rfl, hF3, by (repeat' (first | exact Below.refl _ _ | assumption | refine Below.setCell ?_ ?_ _ | refine Below.drew ?_ | refine Below.alloc ?_ ?_ _ | refine Below.trans ?_ (Below.mono (by assumption) ?_) | (simp; done) | (simp; omega) | omega))⟩

set_option maxRecDepth 100000 in
set_option maxHeartbeats 4000000 in
theorem c_impl_copyInts (g : Nat) (xs : List Int) (cap : Nat) (w : World) (hr : Rds cIn 1 w (some ⟨g, 0, none⟩) xs) (hn : xs.length ≤ 1000) :
    Calls Try.prog 62 #[.slice (some ⟨g, 0, none⟩) xs.length cap] w fun e w' => ∃ A' cap', e = .returned (.slice A' xs.length cap') ∧ FreshA cIn 1 3 w.heap.size w' A' cap' xs ∧ Below w.heap.size w w' := by
  obtain ⟨i0, hI0, hI1, hI2, hI3⟩ := info_parts info_In
  have HX := hid (rds_news hr)
  clear hr
  by_cases h0 : xs.length = 0
  · obtain rfl := List.eq_nil_of_length_eq_zero h0
    clear h0 HX
    go_enter Try.func62, Try.ntmps62
    go_wp2_with (fail)
    go_ret
    exact ⟨_, _, rfl, FreshA.new (Nat.le_refl _), by (repeat' (first | exact Below.refl _ _ | assumption | refine Below.setCell ?_ ?_ _ | refine Below.drew ?_ | refine Below.alloc ?_ ?_ _ | refine Below.trans ?_ (Below.mono (by assumption) ?_) | (simp; done) | (simp; omega) | omega))⟩
  have hpos : 0 < xs.length := by omega
  clear h0
  go_enter Try.func62, Try.ntmps62
  go_wp2_with (at_builtin; refine wpList_pushes (xs := ([] : List (Int))) rfl (.tmp 3) (.tmp 4) 22 rfl 3 i0 _ 8 Try.underlying22 hI0 hI1 hI2 hI3 rfl (by decide) (fun _ => rfl) one_In 0 rfl rfl (FreshA.new (B := w.heap.size) (by first | omega | (simp; omega) | (simp at *; omega))) xs _ rfl g 0 _ rfl ?_ ?_ ?_ ?_ ?_; (exact fun p hp j u hu => (Below.cell (p := ⟨g, _, none⟩) (show Below w.heap.size w _ by (repeat' (first | exact Below.refl _ _ | assumption | refine Below.setCell ?_ ?_ _ | refine Below.drew ?_ | refine Below.alloc ?_ ?_ _ | refine Below.trans ?_ (Below.mono (by assumption) ?_) | (simp; done) | (simp; omega) | omega))) (HX.out p hp j u hu).1).trans (HX.out p hp j u hu).2); (unfold maxLen; omega); omega; (first | omega | (simp; done) | (simp; omega) | exact (show Below w.heap.size w _ by (repeat' (first | exact Below.refl _ _ | assumption | refine Below.setCell ?_ ?_ _ | refine Below.drew ?_ | refine Below.alloc ?_ ?_ _ | refine Below.trans ?_ (Below.mono (by assumption) ?_) | (simp; done) | (simp; omega) | omega))).size | (simp [go_sem]; done) | (simp [go_sem]; omega)); intro A3 cp3 w3 hF3 hg3 hat3; simp only [List.nil_append, Nat.zero_add] at hF3; have hb3 := below_of_grown (B := w.heap.size) hg3 (fun a ha => by cases ha; first | exact Nat.le_refl _ | omega | (simp; omega) | (simp at *; omega)) (by first | omega | (simp; done) | (simp; omega) | exact (show Below w.heap.size w _ by (repeat' (first | exact Below.refl _ _ | assumption | refine Below.setCell ?_ ?_ _ | refine Below.drew ?_ | refine Below.alloc ?_ ?_ _ | refine Below.trans ?_ (Below.mono (by assumption) ?_) | (simp; done) | (simp; omega) | omega))).size); have hs3 := hg3.size; (try simp at hs3); have hBB : Below w.heap.size w w3 := Below.trans (show Below w.heap.size w _ by (repeat' (first | exact Below.refl _ _ | assumption | refine Below.setCell ?_ ?_ _ | refine Below.drew ?_ | refine Below.alloc ?_ ?_ _ | refine Below.trans ?_ (Below.mono (by assumption) ?_) | (simp; done) | (simp; omega) | omega))) hb3)
  go_ret
  exact ⟨_, _, rfl, hF3, by (repeat' (first | exact Below.refl _ _ | assumption | refine Below.setCell ?_ ?_ _ | refine Below.drew ?_ | refine Below.alloc ?_ ?_ _ | refine Below.trans ?_ (Below.mono (by assumption) ?_) | (simp; done) | (simp; omega) | omega))⟩

end Go.Proofs.Ytpaclngjmdacjaa
