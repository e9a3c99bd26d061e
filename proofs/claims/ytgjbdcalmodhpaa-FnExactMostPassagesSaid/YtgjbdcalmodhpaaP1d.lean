import Derived.Test.YtgjbdcalmodhpaaP1
namespace Go.Proofs.Ytgjbdcalmodhpaa
set_option linter.unusedSimpArgs false
set_option linter.unusedVariables false
open Go.RowKit

set_option maxHeartbeats 2000000 in
theorem c_impl_doClash (i : Int) (d : Bool) (a b : Int) (i' : Int) (d' : Bool) (a' b' : Int) (g : Int) (w : World) (hb_a : -99999 ≤ a ∧ a ≤ 99999) (hb_b : -99999 ≤ b ∧ b ≤ 99999) (hb_aq : -99999 ≤ a' ∧ a' ≤ 99999) (hb_bq : -99999 ≤ b' ∧ b' ≤ 99999) :
    Calls Try.prog 57 #[.agg #[.int .i64 (i), .bool (d), .int .i64 (a), .int .i64 (b)], .agg #[.int .i64 (i'), .bool (d'), .int .i64 (a'), .int .i64 (b')], .int .i64 (g)] w fun e w' => e = .returned (.bool (clashB i d a b i' d' a' b' g)) ∧ Below w.heap.size w w' := by
  go_enter Try.func57, Try.ntmps57
  go_wp2
  all_goals go_ret
  all_goals
    refine ⟨ret_bool ?_, ?_⟩
    · first | rfl | omega | (simp [clashB]; done) | (simp [clashB]; omega) | (simp [clashB]; (repeat' split) <;> (first | omega | (simp; done) | (simp; omega))) | (simp_all [clashB]; done) | (simp_all [clashB]; omega)
    · (repeat' (first | exact Below.refl _ _ | assumption | refine Below.setCell ?_ ?_ _ | refine Below.drew ?_ | refine Below.alloc ?_ ?_ _ | refine Below.trans ?_ (Below.mono (by assumption) ?_) | (simp; done) | (simp; omega) | omega))

end Go.Proofs.Ytgjbdcalmodhpaa
