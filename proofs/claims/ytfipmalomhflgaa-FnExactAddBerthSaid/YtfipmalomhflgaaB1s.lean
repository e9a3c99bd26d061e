import Derived.Test.YtfipmalomhflgaaBDefs
import Derived.Test.YtfipmalomhflgaaC1
namespace Go.Proofs.Ytfipmalomhflgaa
set_option linter.unusedSimpArgs false
set_option linter.unusedVariables false
open Go.RowKit

set_option maxHeartbeats 2000000 in
theorem c_spec_l16One (q i c l f t : Int) (w : World) (hq : 1 ≤ q ∧ q ≤ 20) :
    Calls Try.prog 79 #[.int .i64 (q), .agg #[.int .i64 (i), .int .i64 (c), .int .i64 (l), .int .i64 (f), .int .i64 (t)]] w fun e w' => e = .returned (.bool (berB q i c l f t)) ∧ Below w.heap.size w w' := by
  by_cases hs0 : inB i 1 99 = true
  rotate_left
  · have hn : inB i 1 99 = false := Bool.eq_false_iff.2 hs0
    clear hs0
    go_enter Try.func79, Try.ntmps79
    go_wp2_with (first | (go_at_call 57; refine (c_spec_l1In _ _ _ _ ).mono ?_; rintro e w' ⟨rfl, hb⟩; have hc := cellOf hb; have hf := frozOf hb; have hz := sizeOf hb; try simp at hz))
    all_goals go_ret
    all_goals
      refine ⟨ret_bool ?_, ?_⟩
      · first | rfl | omega | (simp [berB, inB, hn]; done) | (simp [berB, inB, hn]; omega) | (simp [berB, inB, hn]; (repeat' split) <;> (first | omega | (simp; done) | (simp; omega))) | (simp_all [berB, inB]; done) | (simp_all [berB, inB]; omega)
      · (repeat' (first | exact Below.refl _ _ | assumption | refine Below.setCell ?_ ?_ _ | refine Below.drew ?_ | refine Below.alloc ?_ ?_ _ | refine Below.trans ?_ (Below.mono (by assumption) ?_) | (simp; done) | (simp; omega) | omega))
  have hbd0 := inB_bd hs0
  by_cases hs1 : inB l 1 q = true
  rotate_left
  · have hn : inB l 1 q = false := Bool.eq_false_iff.2 hs1
    clear hs1
    go_enter Try.func79, Try.ntmps79
    go_wp2_with (first | (go_at_call 57; refine (c_spec_l1In _ _ _ _ ).mono ?_; rintro e w' ⟨rfl, hb⟩; have hc := cellOf hb; have hf := frozOf hb; have hz := sizeOf hb; try simp at hz))
    all_goals go_ret
    all_goals
      refine ⟨ret_bool ?_, ?_⟩
      · first | rfl | omega | (simp [berB, inB, hs0, hn]; done) | (simp [berB, inB, hs0, hn]; omega) | (simp [berB, inB, hs0, hn]; (repeat' split) <;> (first | omega | (simp; done) | (simp; omega))) | (simp_all [berB, inB]; done) | (simp_all [berB, inB]; omega)
      · (repeat' (first | exact Below.refl _ _ | assumption | refine Below.setCell ?_ ?_ _ | refine Below.drew ?_ | refine Below.alloc ?_ ?_ _ | refine Below.trans ?_ (Below.mono (by assumption) ?_) | (simp; done) | (simp; omega) | omega))
  have hbd1 := inB_bd hs1
  by_cases hs2 : inB c 0 (q - l) = true
  rotate_left
  · have hn : inB c 0 (q - l) = false := Bool.eq_false_iff.2 hs2
    clear hs2
    go_enter Try.func79, Try.ntmps79
    go_wp2_with (first | (go_at_call 57; refine (c_spec_l1In _ _ _ _ ).mono ?_; rintro e w' ⟨rfl, hb⟩; have hc := cellOf hb; have hf := frozOf hb; have hz := sizeOf hb; try simp at hz))
    all_goals go_ret
    all_goals
      refine ⟨ret_bool ?_, ?_⟩
      · first | rfl | omega | (simp [berB, inB, hs0, hs1, hn]; done) | (simp [berB, inB, hs0, hs1, hn]; omega) | (simp [berB, inB, hs0, hs1, hn]; (repeat' split) <;> (first | omega | (simp; done) | (simp; omega))) | (simp_all [berB, inB]; done) | (simp_all [berB, inB]; omega)
      · (repeat' (first | exact Below.refl _ _ | assumption | refine Below.setCell ?_ ?_ _ | refine Below.drew ?_ | refine Below.alloc ?_ ?_ _ | refine Below.trans ?_ (Below.mono (by assumption) ?_) | (simp; done) | (simp; omega) | omega))
  have hbd2 := inB_bd hs2
  by_cases hs3 : inB f 0 499 = true
  rotate_left
  · have hn : inB f 0 499 = false := Bool.eq_false_iff.2 hs3
    clear hs3
    go_enter Try.func79, Try.ntmps79
    go_wp2_with (first | (go_at_call 57; refine (c_spec_l1In _ _ _ _ ).mono ?_; rintro e w' ⟨rfl, hb⟩; have hc := cellOf hb; have hf := frozOf hb; have hz := sizeOf hb; try simp at hz))
    all_goals go_ret
    all_goals
      refine ⟨ret_bool ?_, ?_⟩
      · first | rfl | omega | (simp [berB, inB, hs0, hs1, hs2, hn]; done) | (simp [berB, inB, hs0, hs1, hs2, hn]; omega) | (simp [berB, inB, hs0, hs1, hs2, hn]; (repeat' split) <;> (first | omega | (simp; done) | (simp; omega))) | (simp_all [berB, inB]; done) | (simp_all [berB, inB]; omega)
      · (repeat' (first | exact Below.refl _ _ | assumption | refine Below.setCell ?_ ?_ _ | refine Below.drew ?_ | refine Below.alloc ?_ ?_ _ | refine Below.trans ?_ (Below.mono (by assumption) ?_) | (simp; done) | (simp; omega) | omega))
  have hbd3 := inB_bd hs3
  go_enter Try.func79, Try.ntmps79
  go_wp2_with (first | (go_at_call 57; refine (c_spec_l1In _ _ _ _ ).mono ?_; rintro e w' ⟨rfl, hb⟩; have hc := cellOf hb; have hf := frozOf hb; have hz := sizeOf hb; try simp at hz))
  all_goals go_ret
  all_goals
    refine ⟨ret_bool ?_, ?_⟩
    · first | rfl | omega | (simp [berB, inB, hs0, hs1, hs2, hs3]; done) | (simp [berB, inB, hs0, hs1, hs2, hs3]; omega) | (simp [berB, inB, hs0, hs1, hs2, hs3]; (repeat' split) <;> (first | omega | (simp; done) | (simp; omega))) | (simp_all [berB, inB]; done) | (simp_all [berB, inB]; omega)
    · (repeat' (first | exact Below.refl _ _ | assumption | refine Below.setCell ?_ ?_ _ | refine Below.drew ?_ | refine Below.alloc ?_ ?_ _ | refine Below.trans ?_ (Below.mono (by assumption) ?_) | (simp; done) | (simp; omega) | omega))

end Go.Proofs.Ytfipmalomhflgaa
