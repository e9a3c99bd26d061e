import Derived.Test.YtgjbdcalmodhpaaE1
namespace Go.Proofs.Ytgjbdcalmodhpaa
set_option linter.unusedSimpArgs false
set_option linter.unusedVariables false
open Go.RowKit

set_option maxRecDepth 100000 in
set_option maxHeartbeats 4000000 in
theorem c_impl_ClashPairs (A : Option Addr) (xs : List (Int × Bool × Int × Int)) (cap : Nat) (g : Int) (w : World) (hx : Rds cPas 4 w A xs) (hn : xs.length ≤ 9223372036854775807) (hcap : xs.length ≤ cap) (hmax : cap ≤ 9223372036854775807) :
    Calls Try.prog 28 #[.slice A xs.length cap, .int .i64 g] w fun e w' => ∃ A' cap', e = .returned (.tuple #[.slice A' (clashV xs g).1.length cap', .bool (clashV xs g).2]) ∧ FreshA cPr 2 65 w.heap.size w' A' cap' (clashV xs g).1 ∧ Below w.heap.size w w' := by
  by_cases hs0 : vB pOk pLt 6 xs = true
  rotate_left
  · have hn0 : vB pOk pLt 6 xs = false := by simpa using hs0
    have hV : clashV xs g = ([], false) := by simp [clashV, hn0]
    simp only [hV]
    clear hs0 hV
    go_enter Try.func28, Try.ntmps28
    go_wp2_with (first | (go_at_call 19; refine (c_impl_ArePassages _ _ _ _ (by first | assumption | exact Rds.below hx (by (repeat' (first | exact Below.refl _ _ | assumption | refine Below.setCell ?_ ?_ _ | refine Below.drew ?_ | refine Below.alloc ?_ ?_ _ | refine Below.trans ?_ (Below.mono (by assumption) ?_) | (simp; done) | (simp; omega) | omega)))) (by omega)).mono ?_; rintro e w' ⟨rfl, hb⟩; have hc := cellOf hb; have hf := frozOf hb; have hz := sizeOf hb; try simp at hz) | (go_at_call 56; refine (c_impl_isGap _ _ ).mono ?_; rintro e w' ⟨rfl, hb⟩; have hc := cellOf hb; have hf := frozOf hb; have hz := sizeOf hb; try simp at hz))
    all_goals go_ret2
    all_goals exact ⟨none, 0, rfl, .inl ⟨rfl, rfl, rfl⟩, by (repeat' (first | exact Below.refl _ _ | assumption | refine Below.setCell ?_ ?_ _ | refine Below.drew ?_ | refine Below.alloc ?_ ?_ _ | refine Below.trans ?_ (Below.mono (by assumption) ?_) | (simp; done) | (simp; omega) | omega))⟩
  by_cases hs1 : gapB g = true
  rotate_left
  · have hn1 : gapB g = false := by simpa using hs1
    have hV : clashV xs g = ([], false) := by simp [clashV, hn1]
    simp only [hV]
    clear hs1 hV
    go_enter Try.func28, Try.ntmps28
    go_wp2_with (first | (go_at_call 19; refine (c_impl_ArePassages _ _ _ _ (by first | assumption | exact Rds.below hx (by (repeat' (first | exact Below.refl _ _ | assumption | refine Below.setCell ?_ ?_ _ | refine Below.drew ?_ | refine Below.alloc ?_ ?_ _ | refine Below.trans ?_ (Below.mono (by assumption) ?_) | (simp; done) | (simp; omega) | omega)))) (by omega)).mono ?_; rintro e w' ⟨rfl, hb⟩; have hc := cellOf hb; have hf := frozOf hb; have hz := sizeOf hb; try simp at hz) | (go_at_call 56; refine (c_impl_isGap _ _ ).mono ?_; rintro e w' ⟨rfl, hb⟩; have hc := cellOf hb; have hf := frozOf hb; have hz := sizeOf hb; try simp at hz))
    all_goals go_ret2
    all_goals exact ⟨none, 0, rfl, .inl ⟨rfl, rfl, rfl⟩, by (repeat' (first | exact Below.refl _ _ | assumption | refine Below.setCell ?_ ?_ _ | refine Below.drew ?_ | refine Below.alloc ?_ ?_ _ | refine Below.trans ?_ (Below.mono (by assumption) ?_) | (simp; done) | (simp; omega) | omega))⟩
  have hlen := vB_len hs0
  have hV : clashV xs g = (pairsV xs g, true) := by simp [clashV, hs0, hs1]
  simp only [hV]
  clear hV
  go_enter Try.func28, Try.ntmps28
  go_wp2_with (first | (first | (go_at_call 19; refine (c_impl_ArePassages _ _ _ _ (by first | assumption | exact Rds.below hx (by (repeat' (first | exact Below.refl _ _ | assumption | refine Below.setCell ?_ ?_ _ | refine Below.drew ?_ | refine Below.alloc ?_ ?_ _ | refine Below.trans ?_ (Below.mono (by assumption) ?_) | (simp; done) | (simp; omega) | omega)))) (by omega)).mono ?_; rintro e w' ⟨rfl, hb⟩; have hc := cellOf hb; have hf := frozOf hb; have hz := sizeOf hb; try simp at hz) | (go_at_call 56; refine (c_impl_isGap _ _ ).mono ?_; rintro e w' ⟨rfl, hb⟩; have hc := cellOf hb; have hf := frozOf hb; have hz := sizeOf hb; try simp at hz)) | (go_at_call 70; refine (c_impl_clashPairs _ _ _ _ _ (hx.below (by (repeat' (first | exact Below.refl _ _ | assumption | refine Below.setCell ?_ ?_ _ | refine Below.drew ?_ | refine Below.alloc ?_ ?_ _ | refine Below.trans ?_ (Below.mono (by assumption) ?_) | (simp; done) | (simp; omega) | omega)))) hlen hcap (by omega) (vB_bdP hs0) hs1).mono ?_; rintro e w9 ⟨A9, c9, rfl, hF9, hb9⟩))
  go_ret2
  exact ⟨A9, c9, rfl, hF9.mono (by have := hb9.size; first | omega | (simp at *; omega)), by (repeat' (first | exact Below.refl _ _ | assumption | refine Below.setCell ?_ ?_ _ | refine Below.drew ?_ | refine Below.alloc ?_ ?_ _ | refine Below.trans ?_ (Below.mono (by assumption) ?_) | (simp; done) | (simp; omega) | omega))⟩

end Go.Proofs.Ytgjbdcalmodhpaa
