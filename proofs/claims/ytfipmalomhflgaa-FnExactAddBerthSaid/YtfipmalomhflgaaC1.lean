import Derived.Test.YtfipmalomhflgaaDefs
namespace Go.Proofs.Ytfipmalomhflgaa
set_option linter.unusedSimpArgs false
set_option linter.unusedVariables false
open Go.RowKit

set_option maxHeartbeats 400000 in
theorem c_impl_inside (a b c : Int) (w : World)  :
    Calls Try.prog 53 #[.int .i64 (a), .int .i64 (b), .int .i64 (c)] w fun e w' => e = .returned (.bool (inB a b c)) ∧ Below w.heap.size w w' := by
  go_enter Try.func53, Try.ntmps53
  go_wp2
  all_goals go_ret
  all_goals
    refine ⟨ret_bool ?_, ?_⟩
    · first | rfl | omega | (simp [inB]; done) | (simp [inB]; omega) | (simp [inB]; (repeat' split) <;> (first | omega | (simp; done) | (simp; omega))) | (simp_all [inB]; done) | (simp_all [inB]; omega)
    · (repeat' (first | exact Below.refl _ _ | assumption | refine Below.setCell ?_ ?_ _ | refine Below.drew ?_ | refine Below.alloc ?_ ?_ _ | refine Below.trans ?_ (Below.mono (by assumption) ?_) | (simp; done) | (simp; omega) | omega))

set_option maxHeartbeats 400000 in
theorem c_spec_l1In (a b c : Int) (w : World)  :
    Calls Try.prog 57 #[.int .i64 (a), .int .i64 (b), .int .i64 (c)] w fun e w' => e = .returned (.bool (inB a b c)) ∧ Below w.heap.size w w' := by
  go_enter Try.func57, Try.ntmps57
  go_wp2
  all_goals go_ret
  all_goals
    refine ⟨ret_bool ?_, ?_⟩
    · first | rfl | omega | (simp [inB]; done) | (simp [inB]; omega) | (simp [inB]; (repeat' split) <;> (first | omega | (simp; done) | (simp; omega))) | (simp_all [inB]; done) | (simp_all [inB]; omega)
    · (repeat' (first | exact Below.refl _ _ | assumption | refine Below.setCell ?_ ?_ _ | refine Below.drew ?_ | refine Below.alloc ?_ ?_ _ | refine Below.trans ?_ (Below.mono (by assumption) ?_) | (simp; done) | (simp; omega) | omega))

set_option maxHeartbeats 400000 in
theorem c_spec_l1Most (a b : Int) (w : World)  :
    Calls Try.prog 76 #[.int .i64 (a), .int .i64 (b)] w fun e w' => e = .returned (.int .i64 (max a b)) ∧ Below w.heap.size w w' := by
  go_enter Try.func76, Try.ntmps76
  go_wp2
  all_goals go_ret
  all_goals
    refine ⟨ret_int ?_, ?_⟩
    · first | rfl | omega | (simp []; done) | (simp []; omega) | (simp []; (repeat' split) <;> (first | omega | (simp; done) | (simp; omega))) | (simp_all []; done) | (simp_all []; omega)
    · (repeat' (first | exact Below.refl _ _ | assumption | refine Below.setCell ?_ ?_ _ | refine Below.drew ?_ | refine Below.alloc ?_ ?_ _ | refine Below.trans ?_ (Below.mono (by assumption) ?_) | (simp; done) | (simp; omega) | omega))

end Go.Proofs.Ytfipmalomhflgaa
