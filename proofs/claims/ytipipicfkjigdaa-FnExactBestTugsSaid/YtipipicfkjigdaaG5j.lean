import Derived.Test.YtipipicfkjigdaaG5
namespace Go.Proofs.Ytipipicfkjigdaa
set_option linter.unusedSimpArgs false
set_option linter.unusedVariables false
open Go.RowKit

set_option maxHeartbeats 2000000 in
theorem c_laws_eqTugJob (a b c d h a' b' c' d' h' : Int) (w : World)  :
    Calls Try.prog 51 #[.agg #[.int .i64 (a), .int .i64 (b), .int .i64 (c), .int .i64 (d), .int .i64 (h)], .agg #[.int .i64 (a'), .int .i64 (b'), .int .i64 (c'), .int .i64 (d'), .int .i64 (h')]] w fun e w' => e = .returned (.bool (eqJobB a b c d h a' b' c' d' h')) ∧ Below w.heap.size w w' := by
  go_enter Try.func51, Try.ntmps51
  go_wp2
  all_goals go_ret
  all_goals
    refine ⟨ret_bool ?_, ?_⟩
    · first | rfl | omega | (simp [eqJobB]; done) | (simp [eqJobB]; omega) | (simp [eqJobB]; (repeat' split) <;> (first | omega | (simp; done) | (simp; omega))) | (simp_all [eqJobB]; done) | (simp_all [eqJobB]; omega)
    · (repeat' (first | exact Below.refl _ _ | assumption | refine Below.setCell ?_ ?_ _ | refine Below.drew ?_ | refine Below.alloc ?_ ?_ _ | refine Below.trans ?_ (Below.mono (by assumption) ?_) | (simp; done) | (simp; omega) | omega))

end Go.Proofs.Ytipipicfkjigdaa
