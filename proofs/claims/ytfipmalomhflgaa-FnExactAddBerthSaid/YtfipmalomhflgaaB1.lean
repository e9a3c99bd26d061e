import Derived.Test.YtfipmalomhflgaaBDefs
import Derived.Test.YtfipmalomhflgaaC1
namespace Go.Proofs.Ytfipmalomhflgaa
set_option linter.unusedSimpArgs false
set_option linter.unusedVariables false
open Go.RowKit

set_option maxHeartbeats 2000000 in
theorem c_impl_isBerth (q i c l f t : Int) (w : World) (hq : 1 ≤ q ∧ q ≤ 20) :
    Calls Try.prog 54 #[.int .i64 (q), .agg #[.int .i64 (i), .int .i64 (c), .int .i64 (l), .int .i64 (f), .int .i64 (t)]] w fun e w' => e = .returned (.bool (berB q i c l f t)) ∧ Below w.heap.size w w' := by
  by_cases hs0 : inB i 1 99 = true
  rotate_left
  · have hn : inB i 1 99 = false := Bool.eq_false_iff.2 hs0
    clear hs0
    go_enter Try.func54, Try.ntmps54
    go_wp2_with (first | (go_at_call 53; refine (c_impl_inside _ _ _ _ ).mono ?_; rintro e w' ⟨rfl, hb⟩; have hc := cellOf hb; have hf := frozOf hb; have hz := sizeOf hb; try simp at hz))
    all_goals go_ret
    all_goals
      refine ⟨ret_bool ?_, ?_⟩
      · first | rfl | omega | (simp [berB, inB, hn]; done) | (simp [berB, inB, hn]; omega) | (simp [berB, inB, hn]; (repeat' split) <;> (first | omega | (simp; done) | (simp; omega))) | (simp_all [berB, inB]; done) | (simp_all [berB, inB]; omega)
      · (repeat' (first | exact Below.refl _ _ | assumption | refine Below.setCell ?_ ?_ _ | refine Below.drew ?_ | refine Below.alloc ?_ ?_ _ | refine Below.trans ?_ (Below.mono (by assumption) ?_) | (simp; done) | (simp; omega) | omega))
  have hbd0 := inB_bd hs0
  by_cases hs1 : inB c 0 (q - 1) = true
  rotate_left
  · have hn : inB c 0 (q - 1) = false := Bool.eq_false_iff.2 hs1
    clear hs1
    go_enter Try.func54, Try.ntmps54
    go_wp2_with (first | (go_at_call 53; refine (c_impl_inside _ _ _ _ ).mono ?_; rintro e w' ⟨rfl, hb⟩; have hc := cellOf hb; have hf := frozOf hb; have hz := sizeOf hb; try simp at hz))
    all_goals go_ret
    all_goals
      refine ⟨ret_bool ?_, ?_⟩
      · first | rfl | omega | (simp [berB, inB, hs0, hn]; done) | (simp [berB, inB, hs0, hn]; omega) | (simp [berB, inB, hs0, hn]; (repeat' split) <;> (first | omega | (simp; done) | (simp; omega))) | (simp_all [berB, inB]; done) | (simp_all [berB, inB]; omega)
      · (repeat' (first | exact Below.refl _ _ | assumption | refine Below.setCell ?_ ?_ _ | refine Below.drew ?_ | refine Below.alloc ?_ ?_ _ | refine Below.trans ?_ (Below.mono (by assumption) ?_) | (simp; done) | (simp; omega) | omega))
  have hbd1 := inB_bd hs1
  by_cases hs2 : inB l 1 (q - c) = true
  rotate_left
  · have hn : inB l 1 (q - c) = false := Bool.eq_false_iff.2 hs2
    clear hs2
    go_enter Try.func54, Try.ntmps54
    go_wp2_with (first | (go_at_call 53; refine (c_impl_inside _ _ _ _ ).mono ?_; rintro e w' ⟨rfl, hb⟩; have hc := cellOf hb; have hf := frozOf hb; have hz := sizeOf hb; try simp at hz))
    all_goals go_ret
    all_goals
      refine ⟨ret_bool ?_, ?_⟩
      · first | rfl | omega | (simp [berB, inB, hs0, hs1, hn]; done) | (simp [berB, inB, hs0, hs1, hn]; omega) | (simp [berB, inB, hs0, hs1, hn]; (repeat' split) <;> (first | omega | (simp; done) | (simp; omega))) | (simp_all [berB, inB]; done) | (simp_all [berB, inB]; omega)
      · (repeat' (first | exact Below.refl _ _ | assumption | refine Below.setCell ?_ ?_ _ | refine Below.drew ?_ | refine Below.alloc ?_ ?_ _ | refine Below.trans ?_ (Below.mono (by assumption) ?_) | (simp; done) | (simp; omega) | omega))
  have hbd2 := inB_bd hs2
  go_enter Try.func54, Try.ntmps54
  go_wp2_with (first | (go_at_call 53; refine (c_impl_inside _ _ _ _ ).mono ?_; rintro e w' ⟨rfl, hb⟩; have hc := cellOf hb; have hf := frozOf hb; have hz := sizeOf hb; try simp at hz))
  all_goals go_ret
  all_goals
    refine ⟨ret_bool ?_, ?_⟩
    · first | rfl | omega | (simp [berB, inB, hs0, hs1, hs2]; done) | (simp [berB, inB, hs0, hs1, hs2]; omega) | (simp [berB, inB, hs0, hs1, hs2]; (repeat' split) <;> (first | omega | (simp; done) | (simp; omega))) | (simp_all [berB, inB]; done) | (simp_all [berB, inB]; omega)
    · (repeat' (first | exact Below.refl _ _ | assumption | refine Below.setCell ?_ ?_ _ | refine Below.drew ?_ | refine Below.alloc ?_ ?_ _ | refine Below.trans ?_ (Below.mono (by assumption) ?_) | (simp; done) | (simp; omega) | omega))

end Go.Proofs.Ytfipmalomhflgaa
