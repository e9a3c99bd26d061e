import Derived.Test.YtgjbdcalmodhpaaQ0
import Derived.Test.YtgjbdcalmodhpaaC1
import Derived.Deep.RegionHeld3
import Derived.BigQuiet
import Derived.Deep.QuietTactic
namespace Go.Proofs.Ytgjbdcalmodhpaa
set_option linter.unusedSimpArgs false
set_option linter.unusedVariables false
open Go.RowKit

set_option maxRecDepth 100000 in
set_option maxHeartbeats 4000000 in
theorem c_ones64 (n : Nat) (hn : n < 64) (w : World) : Calls Try.prog 90 #[.int .u64 (n : Int)] w fun e w' => e = .returned (.int .i64 (popK n 6 : Nat)) ∧ w' = w := by
  go_enter Try.func90, Try.ntmps90
  go_wp2_with (fail)
  go_ret
  refine ⟨ret_int ?_, rfl⟩
  obtain ⟨m, rfl⟩ : ∃ m : Fin 64, n = m.1 := ⟨⟨n, hn⟩, rfl⟩
  clear hn
  revert m
  decide +kernel
theorem c_ones (n : Nat) (hn : n < 64) (w : World) : Calls Try.prog 75 #[.int .u64 (n : Int)] w fun e w' => e = .returned (.int .i64 (popK n 6 : Nat)) ∧ w' = w := by
  go_enter Try.func75, Try.ntmps75
  go_wp2_with (go_at_call 90; refine (c_ones64 n hn _).mono ?_; rintro e w' ⟨rfl, hw9⟩; rw [hw9]; clear hw9 w')
  go_ret
  exact ⟨rfl, rfl⟩
theorem c_cmpInt (a b : Int) (w : World) : Calls Try.prog 91 #[.int .i64 a, .int .i64 b] w fun e w' => e = .returned (.int .i64 (if a < b then -1 else if b < a then 1 else 0)) ∧ w' = w := by
  have hnan : ∀ (x : Int) (w : World), Calls Try.prog 94 #[.int .i64 x] w fun e w' => e = .returned (.bool false) ∧ w' = w := fun x w => by
    go_enter Try.func94, Try.ntmps94
    go_wp2_with (fail)
    go_ret
    exact ⟨ret_bool (by simp), rfl⟩
  go_enter Try.func91, Try.ntmps91
  go_wp2_with (go_at_call 94; refine (hnan _ _).mono ?_; rintro e w' ⟨rfl, hw9⟩; rw [hw9]; clear hw9 w')
  all_goals go_ret
  all_goals exact ⟨ret_int (by (repeat' split) <;> omega), rfl⟩

end Go.Proofs.Ytgjbdcalmodhpaa
