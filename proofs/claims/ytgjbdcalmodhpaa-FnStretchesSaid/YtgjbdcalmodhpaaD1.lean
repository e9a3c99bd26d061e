import Derived.Test.YtgjbdcalmodhpaaPN
import Derived.Test.YtgjbdcalmodhpaaP1c
namespace Go.Proofs.Ytgjbdcalmodhpaa
set_option linter.unusedSimpArgs false
set_option linter.unusedVariables false
open Go.RowKit

set_option maxHeartbeats 2000000 in
theorem c_impl_delayed (i : Int) (d : Bool) (a b : Int) (y : Int) (w : World) (hb_a : -99999 ≤ a ∧ a ≤ 99999) (hb_b : -99999 ≤ b ∧ b ≤ 99999) (hb_y : -99999 ≤ y ∧ y ≤ 99999) :
    Calls Try.prog 73 #[.agg #[.int .i64 (i), .bool (d), .int .i64 (a), .int .i64 (b)], .int .i64 (y)] w fun e w' => e = .returned (.agg #[.int .i64 (i), .bool (d), .int .i64 (a + y), .int .i64 (b + y)]) ∧ Below w.heap.size w w' := by
  go_enter Try.func73, Try.ntmps73
  go_wp2
  all_goals
    refine bodyPost_ret (v := .agg #[.int .i64 (i), .bool (d), .int .i64 (a + y), .int .i64 (b + y)]) ?_ rfl ⟨rfl, ?_⟩
    · first | (simp [results, Try.results73, go_sem, ↓IntWalk.iteOmega, *]; done) | (simp [results, Try.results73, go_sem, ↓IntWalk.iteOmega, *]; omega) | (simp [results, Try.results73, go_sem, ↓IntWalk.iteOmega, *]; simp_all []; done)
    · (repeat' (first | exact Below.refl _ _ | assumption | refine Below.setCell ?_ ?_ _ | refine Below.drew ?_ | refine Below.alloc ?_ ?_ _ | refine Below.trans ?_ (Below.mono (by assumption) ?_) | (simp; done) | (simp; omega) | omega))

set_option maxHeartbeats 2000000 in
theorem c_spec_l14Later (i : Int) (d : Bool) (a b : Int) (y : Int) (w : World) (hb_a : -99999 ≤ a ∧ a ≤ 99999) (hb_b : -99999 ≤ b ∧ b ≤ 99999) (hb_y : -99999 ≤ y ∧ y ≤ 99999) :
    Calls Try.prog 72 #[.agg #[.int .i64 (i), .bool (d), .int .i64 (a), .int .i64 (b)], .int .i64 (y)] w fun e w' => e = .returned (.agg #[.int .i64 (i), .bool (d), .int .i64 (a + y), .int .i64 (b + y)]) ∧ Below w.heap.size w w' := by
  go_enter Try.func72, Try.ntmps72
  go_wp2
  all_goals
    refine bodyPost_ret (v := .agg #[.int .i64 (i), .bool (d), .int .i64 (a + y), .int .i64 (b + y)]) ?_ rfl ⟨rfl, ?_⟩
    · first | (simp [results, Try.results72, go_sem, ↓IntWalk.iteOmega, *]; done) | (simp [results, Try.results72, go_sem, ↓IntWalk.iteOmega, *]; omega) | (simp [results, Try.results72, go_sem, ↓IntWalk.iteOmega, *]; simp_all []; done)
    · (repeat' (first | exact Below.refl _ _ | assumption | refine Below.setCell ?_ ?_ _ | refine Below.drew ?_ | refine Below.alloc ?_ ?_ _ | refine Below.trans ?_ (Below.mono (by assumption) ?_) | (simp; done) | (simp; omega) | omega))

end Go.Proofs.Ytgjbdcalmodhpaa
