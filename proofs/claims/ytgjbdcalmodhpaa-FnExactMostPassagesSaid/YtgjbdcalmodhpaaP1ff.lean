import Derived.Test.YtgjbdcalmodhpaaP1
namespace Go.Proofs.Ytgjbdcalmodhpaa
set_option linter.unusedSimpArgs false
set_option linter.unusedVariables false
open Go.RowKit

set_option maxHeartbeats 2000000 in
theorem c_spec_l14Clash_ff (i a b i' a' b' g : Int) (w : World) (hb_a : -99999 ≤ a ∧ a ≤ 99999) (hb_b : -99999 ≤ b ∧ b ≤ 99999) (hb_aq : -99999 ≤ a' ∧ a' ≤ 99999) (hb_bq : -99999 ≤ b' ∧ b' ≤ 99999) :
    Calls Try.prog 54 #[.agg #[.int .i64 (i), .bool (false), .int .i64 (a), .int .i64 (b)], .agg #[.int .i64 (i'), .bool (false), .int .i64 (a'), .int .i64 (b')], .int .i64 (g)] w fun e w' => e = .returned (.bool (clashB i false a b i' false a' b' g)) ∧ Below w.heap.size w w' := by
  go_enter Try.func54, Try.ntmps54
  go_wp2_with (first | (go_at_call 84; refine (c_spec_l1Most _ _ _ ).mono ?_; rintro e w' ⟨rfl, hb⟩; have hc := cellOf hb; have hf := frozOf hb; have hz := sizeOf hb; try simp at hz) | (go_at_call 85; refine (c_spec_l1Least _ _ _ ).mono ?_; rintro e w' ⟨rfl, hb⟩; have hc := cellOf hb; have hf := frozOf hb; have hz := sizeOf hb; try simp at hz))
  all_goals go_ret
  all_goals
    refine ⟨ret_bool ?_, ?_⟩
    · first | rfl | omega | (simp [clashB]; done) | (simp [clashB]; omega) | (simp [clashB]; (repeat' split) <;> (first | omega | (simp; done) | (simp; omega))) | (simp_all [clashB]; done) | (simp_all [clashB]; omega)
    · (repeat' (first | exact Below.refl _ _ | assumption | refine Below.setCell ?_ ?_ _ | refine Below.drew ?_ | refine Below.alloc ?_ ?_ _ | refine Below.trans ?_ (Below.mono (by assumption) ?_) | (simp; done) | (simp; omega) | omega))

end Go.Proofs.Ytgjbdcalmodhpaa
