import Derived.Test.YtgjbdcalmodhpaaPD
import Derived.Test.YtgjbdcalmodhpaaC1
namespace Go.Proofs.Ytgjbdcalmodhpaa
set_option linter.unusedSimpArgs false
set_option linter.unusedVariables false
open Go.RowKit

set_option maxHeartbeats 400000 in
theorem c_impl_isPassage (i : Int) (d : Bool) (a b : Int) (w : World)  :
    Calls Try.prog 55 #[.agg #[.int .i64 (i), .bool (d), .int .i64 (a), .int .i64 (b)]] w fun e w' => e = .returned (.bool (pasB i d a b)) ∧ Below w.heap.size w w' := by
  go_enter Try.func55, Try.ntmps55
  go_wp2_with (first | (go_at_call 65; refine (c_impl_inside _ _ _ _ ).mono ?_; rintro e w' ⟨rfl, hb⟩; have hc := cellOf hb; have hf := frozOf hb; have hz := sizeOf hb; try simp at hz))
  all_goals go_ret
  all_goals
    refine ⟨ret_bool ?_, ?_⟩
    · first | rfl | omega | (simp [pasB, inB]; done) | (simp [pasB, inB]; omega) | (simp [pasB, inB]; (repeat' split) <;> (first | omega | (simp; done) | (simp; omega))) | (simp_all [pasB, inB]; done) | (simp_all [pasB, inB]; omega)
    · (repeat' (first | exact Below.refl _ _ | assumption | refine Below.setCell ?_ ?_ _ | refine Below.drew ?_ | refine Below.alloc ?_ ?_ _ | refine Below.trans ?_ (Below.mono (by assumption) ?_) | (simp; done) | (simp; omega) | omega))

set_option maxHeartbeats 400000 in
theorem c_spec_l14Single (i : Int) (d : Bool) (a b : Int) (w : World)  :
    Calls Try.prog 52 #[.agg #[.int .i64 (i), .bool (d), .int .i64 (a), .int .i64 (b)]] w fun e w' => e = .returned (.bool (pasB i d a b)) ∧ Below w.heap.size w w' := by
  go_enter Try.func52, Try.ntmps52
  go_wp2_with (first | (go_at_call 63; refine (c_spec_l1In _ _ _ _ ).mono ?_; rintro e w' ⟨rfl, hb⟩; have hc := cellOf hb; have hf := frozOf hb; have hz := sizeOf hb; try simp at hz))
  all_goals go_ret
  all_goals
    refine ⟨ret_bool ?_, ?_⟩
    · first | rfl | omega | (simp [pasB, inB]; done) | (simp [pasB, inB]; omega) | (simp [pasB, inB]; (repeat' split) <;> (first | omega | (simp; done) | (simp; omega))) | (simp_all [pasB, inB]; done) | (simp_all [pasB, inB]; omega)
    · (repeat' (first | exact Below.refl _ _ | assumption | refine Below.setCell ?_ ?_ _ | refine Below.drew ?_ | refine Below.alloc ?_ ?_ _ | refine Below.trans ?_ (Below.mono (by assumption) ?_) | (simp; done) | (simp; omega) | omega))

set_option maxHeartbeats 400000 in
theorem c_impl_isGap (g : Int) (w : World)  :
    Calls Try.prog 56 #[.int .i64 (g)] w fun e w' => e = .returned (.bool (gapB g)) ∧ Below w.heap.size w w' := by
  go_enter Try.func56, Try.ntmps56
  go_wp2_with (first | (go_at_call 65; refine (c_impl_inside _ _ _ _ ).mono ?_; rintro e w' ⟨rfl, hb⟩; have hc := cellOf hb; have hf := frozOf hb; have hz := sizeOf hb; try simp at hz))
  all_goals go_ret
  all_goals
    refine ⟨ret_bool ?_, ?_⟩
    · first | rfl | omega | (simp [gapB, inB]; done) | (simp [gapB, inB]; omega) | (simp [gapB, inB]; (repeat' split) <;> (first | omega | (simp; done) | (simp; omega))) | (simp_all [gapB, inB]; done) | (simp_all [gapB, inB]; omega)
    · (repeat' (first | exact Below.refl _ _ | assumption | refine Below.setCell ?_ ?_ _ | refine Below.drew ?_ | refine Below.alloc ?_ ?_ _ | refine Below.trans ?_ (Below.mono (by assumption) ?_) | (simp; done) | (simp; omega) | omega))

set_option maxHeartbeats 400000 in
theorem c_spec_l14Gap (g : Int) (w : World)  :
    Calls Try.prog 53 #[.int .i64 (g)] w fun e w' => e = .returned (.bool (gapB g)) ∧ Below w.heap.size w w' := by
  go_enter Try.func53, Try.ntmps53
  go_wp2_with (first | (go_at_call 63; refine (c_spec_l1In _ _ _ _ ).mono ?_; rintro e w' ⟨rfl, hb⟩; have hc := cellOf hb; have hf := frozOf hb; have hz := sizeOf hb; try simp at hz))
  all_goals go_ret
  all_goals
    refine ⟨ret_bool ?_, ?_⟩
    · first | rfl | omega | (simp [gapB, inB]; done) | (simp [gapB, inB]; omega) | (simp [gapB, inB]; (repeat' split) <;> (first | omega | (simp; done) | (simp; omega))) | (simp_all [gapB, inB]; done) | (simp_all [gapB, inB]; omega)
    · (repeat' (first | exact Below.refl _ _ | assumption | refine Below.setCell ?_ ?_ _ | refine Below.drew ?_ | refine Below.alloc ?_ ?_ _ | refine Below.trans ?_ (Below.mono (by assumption) ?_) | (simp; done) | (simp; omega) | omega))

end Go.Proofs.Ytgjbdcalmodhpaa
