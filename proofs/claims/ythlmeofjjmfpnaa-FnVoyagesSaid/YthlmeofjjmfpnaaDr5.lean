import Derived.Test.YthlmeofjjmfpnaaCu9
import Derived.Test.YthlmeofjjmfpnaaDr0
namespace Go.Proofs.Ythlmeofjjmfpnaa
set_option linter.unusedSimpArgs false
set_option linter.unusedVariables false
open Go.RowKit

set_option maxRecDepth 100000 in
set_option maxHeartbeats 4000000 in
theorem c_spec_DrawLatestStart (A : Option Addr) (cs : List Int) (cap : Nat) (w : World) (hr : Rds cB 1 w A cs) (hby : Bytes cs) (hl : cs.length ≤ 1000000000) :
    Calls Try.prog 50 #[.slice A cs.length cap] w fun e w' => ∃ (A' : Option Addr) (cp : Nat) (xs : List (Int × Int)) (d : Int), e = .returned (.tuple #[.slice A' xs.length cp, .int .i64 d]) ∧ FreshA cLeg 2 39 w.heap.size w' A' cp xs ∧ xs.length ≤ 14 ∧ (0 ≤ d ∧ d ≤ 10000) ∧ Below w.heap.size w w' := by
  go_enter Try.func50, Try.ntmps50
  go_wp2_with (fail)
  refine (c_legs (w.heap.size) A cs cap 0 _ (CurS.new hr (Below.refl _ _) (by simp)) hby (by omega) hl).mono ?_
  rintro e W1 ⟨A1, cp1, xs, rfl, hF1, hxl, hcu1, hg1⟩
  have hz1 := hg1.size
  try simp at hz1
  go_wp2_with (fail)
  refine (c_among w.heap.size A cs cap (0 + 40) _ ([0, 20, 60, 100, 500, 9999, 10000] : List Int) _ (0) (10000) _ (by repeat' (first | exact CurS.mono hcu1 (by omega) | refine CurS.setc ?_ ?_ | refine CurS.allo ?_ | refine CurS.drw ?_ | (simp; done) | (simp at *; omega) | omega)) hby (by omega) hl (Rds.of_lit (by simp) (by intro i x h; rcases i with _ | _ | _ | _ | _ | _ | _ | i <;> simp at h ⊢ <;> first | exact h | omega)) (by simp) (by intro a ha; cases ha; simp; omega) (fun k hk => (show ∀ x ∈ ([0, 20, 60, 100, 500, 9999, 10000] : List Int), 0 ≤ x ∧ x ≤ 10000 by intro x hx; simp at hx; omega) _ (List.getElem_mem hk))).mono ?_
  rintro e W2 ⟨x2, rfl, hx2a, hx2b, hcu2, hg2⟩
  have hc2 := cellRow hg2
  have hf2 := frozRow hg2
  have hz2 := hg2.size
  have hlt2 := hcu2.lt
  try simp at hz2
  go_wp2_with (fail)
  go_ret2
  exact ⟨A1, cp1, xs, x2, rfl, FreshA.mono (FreshA.rowb (FreshA.below (FreshA.mono (B' := w.heap.size + 1) hF1 (by simp)) (by (repeat' (first | exact Below.refl _ _ | assumption | refine Below.setCell ?_ ?_ _ | refine Below.drew ?_ | refine Below.alloc ?_ ?_ _ | refine Below.trans ?_ (Below.mono (by assumption) ?_) | (simp; done) | (simp; omega) | omega)))) hg2 (by omega)) (by omega), hxl, ⟨hx2a, hx2b⟩, by (repeat' (first | exact Below.refl _ _ | assumption | refine Below.setCell ?_ ?_ _ | refine Below.drew ?_ | refine Below.alloc ?_ ?_ _ | refine below_row ?_ (by assumption) ?_ ?_ | refine Below.trans ?_ (Below.mono (by assumption) ?_) | (simp; done) | (simp; omega) | omega))⟩

end Go.Proofs.Ythlmeofjjmfpnaa
