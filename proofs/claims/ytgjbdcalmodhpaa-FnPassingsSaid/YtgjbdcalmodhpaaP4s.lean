import Derived.Test.YtgjbdcalmodhpaaPD
import Derived.Test.YtgjbdcalmodhpaaP1
import Derived.Test.YtgjbdcalmodhpaaP1c
namespace Go.Proofs.Ytgjbdcalmodhpaa
set_option linter.unusedSimpArgs false
set_option linter.unusedVariables false
open Go.RowKit

set_option maxHeartbeats 2000000 in
theorem c_spec_DoClash (i : Int) (d : Bool) (a b : Int) (i' : Int) (d' : Bool) (a' b' : Int) (g : Int) (w : World)  :
    Calls Try.prog 13 #[.agg #[.int .i64 (i), .bool (d), .int .i64 (a), .int .i64 (b)], .agg #[.int .i64 (i'), .bool (d'), .int .i64 (a'), .int .i64 (b')], .int .i64 (g)] w fun e w' => e = .returned (.tuple #[.bool ((doClashV i d a b i' d' a' b' g).1), .bool ((doClashV i d a b i' d' a' b' g).2)]) ∧ Below w.heap.size w w' := by
  by_cases hs0 : pasB i d a b = true
  rotate_left
  · have hn : pasB i d a b = false := Bool.eq_false_iff.2 hs0
    clear hs0
    go_enter Try.func13, Try.ntmps13
    go_wp2_with (first | (go_at_call 52; refine (c_spec_l14Single _ _ _ _ _ ).mono ?_; rintro e w' ⟨rfl, hb⟩; have hc := cellOf hb; have hf := frozOf hb; have hz := sizeOf hb; try simp at hz) | (go_at_call 53; refine (c_spec_l14Gap _ _ ).mono ?_; rintro e w' ⟨rfl, hb⟩; have hc := cellOf hb; have hf := frozOf hb; have hz := sizeOf hb; try simp at hz) | (go_at_call 54; refine (c_spec_l14Clash _ _ _ _ _ _ _ _ _ _ (by omega) (by omega) (by omega) (by omega)).mono ?_; rintro e w' ⟨rfl, hb⟩; have hc := cellOf hb; have hf := frozOf hb; have hz := sizeOf hb; try simp at hz))
    all_goals go_ret2
    all_goals
      refine ⟨?_, ?_⟩
      · first | rfl | omega | (simp [doClashV, hn]; done) | (simp [doClashV, hn]; omega) | (simp [doClashV, hn]; (repeat' split) <;> (first | omega | (simp; done) | (simp; omega))) | (simp_all [doClashV]; done) | (simp_all [doClashV]; omega)
      · (repeat' (first | exact Below.refl _ _ | assumption | refine Below.setCell ?_ ?_ _ | refine Below.drew ?_ | refine Below.alloc ?_ ?_ _ | refine Below.trans ?_ (Below.mono (by assumption) ?_) | (simp; done) | (simp; omega) | omega))
  have hbd0 := pasB_bd hs0
  by_cases hs1 : pasB i' d' a' b' = true
  rotate_left
  · have hn : pasB i' d' a' b' = false := Bool.eq_false_iff.2 hs1
    clear hs1
    go_enter Try.func13, Try.ntmps13
    go_wp2_with (first | (go_at_call 52; refine (c_spec_l14Single _ _ _ _ _ ).mono ?_; rintro e w' ⟨rfl, hb⟩; have hc := cellOf hb; have hf := frozOf hb; have hz := sizeOf hb; try simp at hz) | (go_at_call 53; refine (c_spec_l14Gap _ _ ).mono ?_; rintro e w' ⟨rfl, hb⟩; have hc := cellOf hb; have hf := frozOf hb; have hz := sizeOf hb; try simp at hz) | (go_at_call 54; refine (c_spec_l14Clash _ _ _ _ _ _ _ _ _ _ (by omega) (by omega) (by omega) (by omega)).mono ?_; rintro e w' ⟨rfl, hb⟩; have hc := cellOf hb; have hf := frozOf hb; have hz := sizeOf hb; try simp at hz))
    all_goals go_ret2
    all_goals
      refine ⟨?_, ?_⟩
      · first | rfl | omega | (simp [doClashV, hs0, hn]; done) | (simp [doClashV, hs0, hn]; omega) | (simp [doClashV, hs0, hn]; (repeat' split) <;> (first | omega | (simp; done) | (simp; omega))) | (simp_all [doClashV]; done) | (simp_all [doClashV]; omega)
      · (repeat' (first | exact Below.refl _ _ | assumption | refine Below.setCell ?_ ?_ _ | refine Below.drew ?_ | refine Below.alloc ?_ ?_ _ | refine Below.trans ?_ (Below.mono (by assumption) ?_) | (simp; done) | (simp; omega) | omega))
  have hbd1 := pasB_bd hs1
  by_cases hs2 : decide (i ≠ i') = true
  rotate_left
  · have hn : decide (i ≠ i') = false := Bool.eq_false_iff.2 hs2
    clear hs2
    go_enter Try.func13, Try.ntmps13
    go_wp2_with (first | (go_at_call 52; refine (c_spec_l14Single _ _ _ _ _ ).mono ?_; rintro e w' ⟨rfl, hb⟩; have hc := cellOf hb; have hf := frozOf hb; have hz := sizeOf hb; try simp at hz) | (go_at_call 53; refine (c_spec_l14Gap _ _ ).mono ?_; rintro e w' ⟨rfl, hb⟩; have hc := cellOf hb; have hf := frozOf hb; have hz := sizeOf hb; try simp at hz) | (go_at_call 54; refine (c_spec_l14Clash _ _ _ _ _ _ _ _ _ _ (by omega) (by omega) (by omega) (by omega)).mono ?_; rintro e w' ⟨rfl, hb⟩; have hc := cellOf hb; have hf := frozOf hb; have hz := sizeOf hb; try simp at hz))
    all_goals go_ret2
    all_goals
      refine ⟨?_, ?_⟩
      · first | rfl | omega | (simp [doClashV, hs0, hs1, hn]; done) | (simp [doClashV, hs0, hs1, hn]; omega) | (simp [doClashV, hs0, hs1, hn]; (repeat' split) <;> (first | omega | (simp; done) | (simp; omega))) | (simp_all [doClashV]; done) | (simp_all [doClashV]; omega)
      · (repeat' (first | exact Below.refl _ _ | assumption | refine Below.setCell ?_ ?_ _ | refine Below.drew ?_ | refine Below.alloc ?_ ?_ _ | refine Below.trans ?_ (Below.mono (by assumption) ?_) | (simp; done) | (simp; omega) | omega))
  have hbd2 := of_decide_eq_true hs2
  by_cases hs3 : gapB g = true
  rotate_left
  · have hn : gapB g = false := Bool.eq_false_iff.2 hs3
    clear hs3
    go_enter Try.func13, Try.ntmps13
    go_wp2_with (first | (go_at_call 52; refine (c_spec_l14Single _ _ _ _ _ ).mono ?_; rintro e w' ⟨rfl, hb⟩; have hc := cellOf hb; have hf := frozOf hb; have hz := sizeOf hb; try simp at hz) | (go_at_call 53; refine (c_spec_l14Gap _ _ ).mono ?_; rintro e w' ⟨rfl, hb⟩; have hc := cellOf hb; have hf := frozOf hb; have hz := sizeOf hb; try simp at hz) | (go_at_call 54; refine (c_spec_l14Clash _ _ _ _ _ _ _ _ _ _ (by omega) (by omega) (by omega) (by omega)).mono ?_; rintro e w' ⟨rfl, hb⟩; have hc := cellOf hb; have hf := frozOf hb; have hz := sizeOf hb; try simp at hz))
    all_goals go_ret2
    all_goals
      refine ⟨?_, ?_⟩
      · first | rfl | omega | (simp [doClashV, hs0, hs1, hs2, hn]; done) | (simp [doClashV, hs0, hs1, hs2, hn]; omega) | (simp [doClashV, hs0, hs1, hs2, hn]; (repeat' split) <;> (first | omega | (simp; done) | (simp; omega))) | (simp_all [doClashV]; done) | (simp_all [doClashV]; omega)
      · (repeat' (first | exact Below.refl _ _ | assumption | refine Below.setCell ?_ ?_ _ | refine Below.drew ?_ | refine Below.alloc ?_ ?_ _ | refine Below.trans ?_ (Below.mono (by assumption) ?_) | (simp; done) | (simp; omega) | omega))
  have hbd3 := gapB_bd hs3
  go_enter Try.func13, Try.ntmps13
  go_wp2_with (first | (go_at_call 52; refine (c_spec_l14Single _ _ _ _ _ ).mono ?_; rintro e w' ⟨rfl, hb⟩; have hc := cellOf hb; have hf := frozOf hb; have hz := sizeOf hb; try simp at hz) | (go_at_call 53; refine (c_spec_l14Gap _ _ ).mono ?_; rintro e w' ⟨rfl, hb⟩; have hc := cellOf hb; have hf := frozOf hb; have hz := sizeOf hb; try simp at hz) | (go_at_call 54; refine (c_spec_l14Clash _ _ _ _ _ _ _ _ _ _ (by omega) (by omega) (by omega) (by omega)).mono ?_; rintro e w' ⟨rfl, hb⟩; have hc := cellOf hb; have hf := frozOf hb; have hz := sizeOf hb; try simp at hz))
  all_goals go_ret2
  all_goals
    refine ⟨?_, ?_⟩
    · first | rfl | omega | (simp [doClashV, hs0, hs1, hs2, hs3]; done) | (simp [doClashV, hs0, hs1, hs2, hs3]; omega) | (simp [doClashV, hs0, hs1, hs2, hs3]; (repeat' split) <;> (first | omega | (simp; done) | (simp; omega))) | (simp_all [doClashV]; done) | (simp_all [doClashV]; omega)
    · (repeat' (first | exact Below.refl _ _ | assumption | refine Below.setCell ?_ ?_ _ | refine Below.drew ?_ | refine Below.alloc ?_ ?_ _ | refine Below.trans ?_ (Below.mono (by assumption) ?_) | (simp; done) | (simp; omega) | omega))

end Go.Proofs.Ytgjbdcalmodhpaa
