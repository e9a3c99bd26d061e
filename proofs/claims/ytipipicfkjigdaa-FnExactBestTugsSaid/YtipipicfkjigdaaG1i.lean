import Derived.Test.YtipipicfkjigdaaG1
namespace Go.Proofs.Ytipipicfkjigdaa
set_option linter.unusedSimpArgs false
set_option linter.unusedVariables false
open Go.RowKit

set_option maxHeartbeats 2000000 in
theorem c_impl_isTugJob (i f t p r : Int) (w : World)  :
    Calls Try.prog 50 #[.agg #[.int .i64 (i), .int .i64 (f), .int .i64 (t), .int .i64 (p), .int .i64 (r)]] w fun e w' => e = .returned (.bool (jobB i f t p r)) ∧ Below w.heap.size w w' := by
  go_enter Try.func50, Try.ntmps50
  go_wp2_with (first | (go_at_call 45; refine (c_impl_inside _ _ _ _ ).mono ?_; rintro e w' ⟨rfl, hb⟩; have hc := cellOf hb; have hf := frozOf hb; have hz := sizeOf hb; try simp at hz) | (go_at_call 46; refine (c_impl_isKilometer _ _ ).mono ?_; rintro e w' ⟨rfl, hb⟩; have hc := cellOf hb; have hf := frozOf hb; have hz := sizeOf hb; try simp at hz) | (go_at_call 47; refine (c_impl_isPower _ _ ).mono ?_; rintro e w' ⟨rfl, hb⟩; have hc := cellOf hb; have hf := frozOf hb; have hz := sizeOf hb; try simp at hz))
  all_goals go_ret
  all_goals
    refine ⟨ret_bool ?_, ?_⟩
    · first | rfl | omega | (simp [jobB, inB]; done) | (simp [jobB, inB]; omega) | (simp [jobB, inB]; (repeat' split) <;> (first | omega | (simp; done) | (simp; omega))) | (simp_all [jobB, inB]; done) | (simp_all [jobB, inB]; omega)
    · (repeat' (first | exact Below.refl _ _ | assumption | refine Below.setCell ?_ ?_ _ | refine Below.drew ?_ | refine Below.alloc ?_ ?_ _ | refine Below.trans ?_ (Below.mono (by assumption) ?_) | (simp; done) | (simp; omega) | omega))

end Go.Proofs.Ytipipicfkjigdaa
