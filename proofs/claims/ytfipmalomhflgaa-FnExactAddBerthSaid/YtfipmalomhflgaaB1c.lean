import Derived.Test.YtfipmalomhflgaaBDefs
import Derived.Test.YtfipmalomhflgaaC1
namespace Go.Proofs.Ytfipmalomhflgaa
set_option linter.unusedSimpArgs false
set_option linter.unusedVariables false
open Go.RowKit

set_option maxHeartbeats 2000000 in
theorem c_spec_l16Clash (i c l f t i' c' l' f' t' : Int) (w : World) (hb0 : -9999 ≤ c ∧ c ≤ 9999) (hb1 : -9999 ≤ l ∧ l ≤ 9999) (hb2 : -9999 ≤ f ∧ f ≤ 9999) (hb3 : -9999 ≤ t ∧ t ≤ 9999) (hb4 : -9999 ≤ c' ∧ c' ≤ 9999) (hb5 : -9999 ≤ l' ∧ l' ≤ 9999) (hb6 : -9999 ≤ f' ∧ f' ≤ 9999) (hb7 : -9999 ≤ t' ∧ t' ≤ 9999) :
    Calls Try.prog 80 #[.agg #[.int .i64 (i), .int .i64 (c), .int .i64 (l), .int .i64 (f), .int .i64 (t)], .agg #[.int .i64 (i'), .int .i64 (c'), .int .i64 (l'), .int .i64 (f'), .int .i64 (t')]] w fun e w' => e = .returned (.bool (crashB c l f t c' l' f' t')) ∧ Below w.heap.size w w' := by
  go_enter Try.func80, Try.ntmps80
  go_wp2
  all_goals go_ret
  all_goals
    refine ⟨ret_bool ?_, ?_⟩
    · first | rfl | omega | (simp [crashB]; done) | (simp [crashB]; omega) | (simp [crashB]; (repeat' split) <;> (first | omega | (simp; done) | (simp; omega))) | (simp_all [crashB]; done) | (simp_all [crashB]; omega)
    · (repeat' (first | exact Below.refl _ _ | assumption | refine Below.setCell ?_ ?_ _ | refine Below.drew ?_ | refine Below.alloc ?_ ?_ _ | refine Below.trans ?_ (Below.mono (by assumption) ?_) | (simp; done) | (simp; omega) | omega))

end Go.Proofs.Ytfipmalomhflgaa
