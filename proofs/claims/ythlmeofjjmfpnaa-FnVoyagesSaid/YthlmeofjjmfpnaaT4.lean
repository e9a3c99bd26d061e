import Derived.Test.YthlmeofjjmfpnaaT2
namespace Go.Proofs.Ythlmeofjjmfpnaa
set_option linter.unusedSimpArgs false
set_option linter.unusedVariables false
open Go.RowKit

set_option maxHeartbeats 2000000 in
theorem c_spec_AfterLeg (a b l m : Int) (w : World)  :
    Calls Try.prog 25 #[.agg #[.int .i64 (a), .int .i64 (b)], .agg #[.int .i64 (l), .int .i64 (m)]] w fun e w' => e = .returned (.tuple #[.agg #[.int .i64 ((afterI a b l m).1.1), .int .i64 ((afterI a b l m).1.2)], .bool ((afterI a b l m).2)]) ∧ Below w.heap.size w w' := by
  by_cases hs0 : goodI a b = true
  rotate_left
  · have hn : goodI a b = false := Bool.eq_false_iff.2 hs0
    clear hs0
    go_enter Try.func25, Try.ntmps25
    go_wp2_with (first | (go_at_call 55; refine (c_spec_l13Good _ _ _ ).mono ?_; rintro e w' ⟨rfl, hb⟩; have hc := cellOf hb; have hf := frozOf hb; have hz := sizeOf hb; try simp at hz) | (go_at_call 61; refine (c_spec_l13Leg _ _ _ ).mono ?_; rintro e w' ⟨rfl, hb⟩; have hc := cellOf hb; have hf := frozOf hb; have hz := sizeOf hb; try simp at hz) | (go_at_call 56; refine (c_spec_l8Minute _ _ ).mono ?_; rintro e w' ⟨rfl, hb⟩; have hc := cellOf hb; have hf := frozOf hb; have hz := sizeOf hb; try simp at hz) | (go_at_call 58; refine (c_spec_l1Most _ _ _ ).mono ?_; rintro e w' ⟨rfl, hb⟩; have hc := cellOf hb; have hf := frozOf hb; have hz := sizeOf hb; try simp at hz) | (go_at_call 60; refine (c_spec_l1Least _ _ _ ).mono ?_; rintro e w' ⟨rfl, hb⟩; have hc := cellOf hb; have hf := frozOf hb; have hz := sizeOf hb; try simp at hz) | (go_at_call 62; refine (c_spec_l13Checked _ _ _ ).mono ?_; rintro e w' ⟨rfl, hb⟩; have hc := cellOf hb; have hf := frozOf hb; have hz := sizeOf hb; try simp at hz) | (go_at_call 63; refine (c_spec_l13After _ _ _ _ _ (by omega) (by omega) (by omega) (by omega)).mono ?_; rintro e w' ⟨rfl, hb⟩; have hc := cellOf hb; have hf := frozOf hb; have hz := sizeOf hb; try simp at hz) | (go_at_call 66; refine (c_spec_l13Before _ _ _ _ _ (by omega) (by omega) (by omega) (by omega)).mono ?_; rintro e w' ⟨rfl, hb⟩; have hc := cellOf hb; have hf := frozOf hb; have hz := sizeOf hb; try simp at hz) | (go_at_call 65; refine (c_spec_l13Common _ _ _ _ _ ).mono ?_; rintro e w' ⟨rfl, hb⟩; have hc := cellOf hb; have hf := frozOf hb; have hz := sizeOf hb; try simp at hz))
    all_goals
      refine bodyPost_ret (v := .tuple #[.agg #[.int .i64 ((afterI a b l m).1.1), .int .i64 ((afterI a b l m).1.2)], .bool ((afterI a b l m).2)]) ?_ rfl ⟨rfl, ?_⟩
      · first | (simp [results, Try.results25, go_sem, ↓IntWalk.iteOmega, afterI, *]; done) | (simp [results, Try.results25, go_sem, ↓IntWalk.iteOmega, afterI, *]; omega) | (simp [results, Try.results25, go_sem, ↓IntWalk.iteOmega, afterI, *]; simp_all [afterI]; done)
      · (repeat' (first | exact Below.refl _ _ | assumption | refine Below.setCell ?_ ?_ _ | refine Below.drew ?_ | refine Below.alloc ?_ ?_ _ | refine Below.trans ?_ (Below.mono (by assumption) ?_) | (simp; done) | (simp; omega) | omega))
  have hbd0 := goodI_bd hs0
  by_cases hs1 : legB l m = true
  rotate_left
  · have hn : legB l m = false := Bool.eq_false_iff.2 hs1
    clear hs1
    go_enter Try.func25, Try.ntmps25
    go_wp2_with (first | (go_at_call 55; refine (c_spec_l13Good _ _ _ ).mono ?_; rintro e w' ⟨rfl, hb⟩; have hc := cellOf hb; have hf := frozOf hb; have hz := sizeOf hb; try simp at hz) | (go_at_call 61; refine (c_spec_l13Leg _ _ _ ).mono ?_; rintro e w' ⟨rfl, hb⟩; have hc := cellOf hb; have hf := frozOf hb; have hz := sizeOf hb; try simp at hz) | (go_at_call 56; refine (c_spec_l8Minute _ _ ).mono ?_; rintro e w' ⟨rfl, hb⟩; have hc := cellOf hb; have hf := frozOf hb; have hz := sizeOf hb; try simp at hz) | (go_at_call 58; refine (c_spec_l1Most _ _ _ ).mono ?_; rintro e w' ⟨rfl, hb⟩; have hc := cellOf hb; have hf := frozOf hb; have hz := sizeOf hb; try simp at hz) | (go_at_call 60; refine (c_spec_l1Least _ _ _ ).mono ?_; rintro e w' ⟨rfl, hb⟩; have hc := cellOf hb; have hf := frozOf hb; have hz := sizeOf hb; try simp at hz) | (go_at_call 62; refine (c_spec_l13Checked _ _ _ ).mono ?_; rintro e w' ⟨rfl, hb⟩; have hc := cellOf hb; have hf := frozOf hb; have hz := sizeOf hb; try simp at hz) | (go_at_call 63; refine (c_spec_l13After _ _ _ _ _ (by omega) (by omega) (by omega) (by omega)).mono ?_; rintro e w' ⟨rfl, hb⟩; have hc := cellOf hb; have hf := frozOf hb; have hz := sizeOf hb; try simp at hz) | (go_at_call 66; refine (c_spec_l13Before _ _ _ _ _ (by omega) (by omega) (by omega) (by omega)).mono ?_; rintro e w' ⟨rfl, hb⟩; have hc := cellOf hb; have hf := frozOf hb; have hz := sizeOf hb; try simp at hz) | (go_at_call 65; refine (c_spec_l13Common _ _ _ _ _ ).mono ?_; rintro e w' ⟨rfl, hb⟩; have hc := cellOf hb; have hf := frozOf hb; have hz := sizeOf hb; try simp at hz))
    all_goals
      refine bodyPost_ret (v := .tuple #[.agg #[.int .i64 ((afterI a b l m).1.1), .int .i64 ((afterI a b l m).1.2)], .bool ((afterI a b l m).2)]) ?_ rfl ⟨rfl, ?_⟩
      · first | (simp [results, Try.results25, go_sem, ↓IntWalk.iteOmega, afterI, *]; done) | (simp [results, Try.results25, go_sem, ↓IntWalk.iteOmega, afterI, *]; omega) | (simp [results, Try.results25, go_sem, ↓IntWalk.iteOmega, afterI, *]; simp_all [afterI]; done)
      · (repeat' (first | exact Below.refl _ _ | assumption | refine Below.setCell ?_ ?_ _ | refine Below.drew ?_ | refine Below.alloc ?_ ?_ _ | refine Below.trans ?_ (Below.mono (by assumption) ?_) | (simp; done) | (simp; omega) | omega))
  have hbd1 := legB_bd hs1
  go_enter Try.func25, Try.ntmps25
  go_wp2_with (first | (go_at_call 55; refine (c_spec_l13Good _ _ _ ).mono ?_; rintro e w' ⟨rfl, hb⟩; have hc := cellOf hb; have hf := frozOf hb; have hz := sizeOf hb; try simp at hz) | (go_at_call 61; refine (c_spec_l13Leg _ _ _ ).mono ?_; rintro e w' ⟨rfl, hb⟩; have hc := cellOf hb; have hf := frozOf hb; have hz := sizeOf hb; try simp at hz) | (go_at_call 56; refine (c_spec_l8Minute _ _ ).mono ?_; rintro e w' ⟨rfl, hb⟩; have hc := cellOf hb; have hf := frozOf hb; have hz := sizeOf hb; try simp at hz) | (go_at_call 58; refine (c_spec_l1Most _ _ _ ).mono ?_; rintro e w' ⟨rfl, hb⟩; have hc := cellOf hb; have hf := frozOf hb; have hz := sizeOf hb; try simp at hz) | (go_at_call 60; refine (c_spec_l1Least _ _ _ ).mono ?_; rintro e w' ⟨rfl, hb⟩; have hc := cellOf hb; have hf := frozOf hb; have hz := sizeOf hb; try simp at hz) | (go_at_call 62; refine (c_spec_l13Checked _ _ _ ).mono ?_; rintro e w' ⟨rfl, hb⟩; have hc := cellOf hb; have hf := frozOf hb; have hz := sizeOf hb; try simp at hz) | (go_at_call 63; refine (c_spec_l13After _ _ _ _ _ (by omega) (by omega) (by omega) (by omega)).mono ?_; rintro e w' ⟨rfl, hb⟩; have hc := cellOf hb; have hf := frozOf hb; have hz := sizeOf hb; try simp at hz) | (go_at_call 66; refine (c_spec_l13Before _ _ _ _ _ (by omega) (by omega) (by omega) (by omega)).mono ?_; rintro e w' ⟨rfl, hb⟩; have hc := cellOf hb; have hf := frozOf hb; have hz := sizeOf hb; try simp at hz) | (go_at_call 65; refine (c_spec_l13Common _ _ _ _ _ ).mono ?_; rintro e w' ⟨rfl, hb⟩; have hc := cellOf hb; have hf := frozOf hb; have hz := sizeOf hb; try simp at hz))
  all_goals
    refine bodyPost_ret (v := .tuple #[.agg #[.int .i64 ((afterI a b l m).1.1), .int .i64 ((afterI a b l m).1.2)], .bool ((afterI a b l m).2)]) ?_ rfl ⟨rfl, ?_⟩
    · first | (simp [results, Try.results25, go_sem, ↓IntWalk.iteOmega, afterI, *]; done) | (simp [results, Try.results25, go_sem, ↓IntWalk.iteOmega, afterI, *]; omega) | (simp [results, Try.results25, go_sem, ↓IntWalk.iteOmega, afterI, *]; simp_all [afterI]; done)
    · (repeat' (first | exact Below.refl _ _ | assumption | refine Below.setCell ?_ ?_ _ | refine Below.drew ?_ | refine Below.alloc ?_ ?_ _ | refine Below.trans ?_ (Below.mono (by assumption) ?_) | (simp; done) | (simp; omega) | omega))

set_option maxHeartbeats 2000000 in
theorem c_spec_BeforeLeg (a b l m : Int) (w : World)  :
    Calls Try.prog 30 #[.agg #[.int .i64 (a), .int .i64 (b)], .agg #[.int .i64 (l), .int .i64 (m)]] w fun e w' => e = .returned (.tuple #[.agg #[.int .i64 ((beforeI a b l m).1.1), .int .i64 ((beforeI a b l m).1.2)], .bool ((beforeI a b l m).2)]) ∧ Below w.heap.size w w' := by
  by_cases hs0 : goodI a b = true
  rotate_left
  · have hn : goodI a b = false := Bool.eq_false_iff.2 hs0
    clear hs0
    go_enter Try.func30, Try.ntmps30
    go_wp2_with (first | (go_at_call 55; refine (c_spec_l13Good _ _ _ ).mono ?_; rintro e w' ⟨rfl, hb⟩; have hc := cellOf hb; have hf := frozOf hb; have hz := sizeOf hb; try simp at hz) | (go_at_call 61; refine (c_spec_l13Leg _ _ _ ).mono ?_; rintro e w' ⟨rfl, hb⟩; have hc := cellOf hb; have hf := frozOf hb; have hz := sizeOf hb; try simp at hz) | (go_at_call 56; refine (c_spec_l8Minute _ _ ).mono ?_; rintro e w' ⟨rfl, hb⟩; have hc := cellOf hb; have hf := frozOf hb; have hz := sizeOf hb; try simp at hz) | (go_at_call 58; refine (c_spec_l1Most _ _ _ ).mono ?_; rintro e w' ⟨rfl, hb⟩; have hc := cellOf hb; have hf := frozOf hb; have hz := sizeOf hb; try simp at hz) | (go_at_call 60; refine (c_spec_l1Least _ _ _ ).mono ?_; rintro e w' ⟨rfl, hb⟩; have hc := cellOf hb; have hf := frozOf hb; have hz := sizeOf hb; try simp at hz) | (go_at_call 62; refine (c_spec_l13Checked _ _ _ ).mono ?_; rintro e w' ⟨rfl, hb⟩; have hc := cellOf hb; have hf := frozOf hb; have hz := sizeOf hb; try simp at hz) | (go_at_call 63; refine (c_spec_l13After _ _ _ _ _ (by omega) (by omega) (by omega) (by omega)).mono ?_; rintro e w' ⟨rfl, hb⟩; have hc := cellOf hb; have hf := frozOf hb; have hz := sizeOf hb; try simp at hz) | (go_at_call 66; refine (c_spec_l13Before _ _ _ _ _ (by omega) (by omega) (by omega) (by omega)).mono ?_; rintro e w' ⟨rfl, hb⟩; have hc := cellOf hb; have hf := frozOf hb; have hz := sizeOf hb; try simp at hz) | (go_at_call 65; refine (c_spec_l13Common _ _ _ _ _ ).mono ?_; rintro e w' ⟨rfl, hb⟩; have hc := cellOf hb; have hf := frozOf hb; have hz := sizeOf hb; try simp at hz))
    all_goals
      refine bodyPost_ret (v := .tuple #[.agg #[.int .i64 ((beforeI a b l m).1.1), .int .i64 ((beforeI a b l m).1.2)], .bool ((beforeI a b l m).2)]) ?_ rfl ⟨rfl, ?_⟩
      · first | (simp [results, Try.results30, go_sem, ↓IntWalk.iteOmega, beforeI, *]; done) | (simp [results, Try.results30, go_sem, ↓IntWalk.iteOmega, beforeI, *]; omega) | (simp [results, Try.results30, go_sem, ↓IntWalk.iteOmega, beforeI, *]; simp_all [beforeI]; done)
      · (repeat' (first | exact Below.refl _ _ | assumption | refine Below.setCell ?_ ?_ _ | refine Below.drew ?_ | refine Below.alloc ?_ ?_ _ | refine Below.trans ?_ (Below.mono (by assumption) ?_) | (simp; done) | (simp; omega) | omega))
  have hbd0 := goodI_bd hs0
  by_cases hs1 : legB l m = true
  rotate_left
  · have hn : legB l m = false := Bool.eq_false_iff.2 hs1
    clear hs1
    go_enter Try.func30, Try.ntmps30
    go_wp2_with (first | (go_at_call 55; refine (c_spec_l13Good _ _ _ ).mono ?_; rintro e w' ⟨rfl, hb⟩; have hc := cellOf hb; have hf := frozOf hb; have hz := sizeOf hb; try simp at hz) | (go_at_call 61; refine (c_spec_l13Leg _ _ _ ).mono ?_; rintro e w' ⟨rfl, hb⟩; have hc := cellOf hb; have hf := frozOf hb; have hz := sizeOf hb; try simp at hz) | (go_at_call 56; refine (c_spec_l8Minute _ _ ).mono ?_; rintro e w' ⟨rfl, hb⟩; have hc := cellOf hb; have hf := frozOf hb; have hz := sizeOf hb; try simp at hz) | (go_at_call 58; refine (c_spec_l1Most _ _ _ ).mono ?_; rintro e w' ⟨rfl, hb⟩; have hc := cellOf hb; have hf := frozOf hb; have hz := sizeOf hb; try simp at hz) | (go_at_call 60; refine (c_spec_l1Least _ _ _ ).mono ?_; rintro e w' ⟨rfl, hb⟩; have hc := cellOf hb; have hf := frozOf hb; have hz := sizeOf hb; try simp at hz) | (go_at_call 62; refine (c_spec_l13Checked _ _ _ ).mono ?_; rintro e w' ⟨rfl, hb⟩; have hc := cellOf hb; have hf := frozOf hb; have hz := sizeOf hb; try simp at hz) | (go_at_call 63; refine (c_spec_l13After _ _ _ _ _ (by omega) (by omega) (by omega) (by omega)).mono ?_; rintro e w' ⟨rfl, hb⟩; have hc := cellOf hb; have hf := frozOf hb; have hz := sizeOf hb; try simp at hz) | (go_at_call 66; refine (c_spec_l13Before _ _ _ _ _ (by omega) (by omega) (by omega) (by omega)).mono ?_; rintro e w' ⟨rfl, hb⟩; have hc := cellOf hb; have hf := frozOf hb; have hz := sizeOf hb; try simp at hz) | (go_at_call 65; refine (c_spec_l13Common _ _ _ _ _ ).mono ?_; rintro e w' ⟨rfl, hb⟩; have hc := cellOf hb; have hf := frozOf hb; have hz := sizeOf hb; try simp at hz))
    all_goals
      refine bodyPost_ret (v := .tuple #[.agg #[.int .i64 ((beforeI a b l m).1.1), .int .i64 ((beforeI a b l m).1.2)], .bool ((beforeI a b l m).2)]) ?_ rfl ⟨rfl, ?_⟩
      · first | (simp [results, Try.results30, go_sem, ↓IntWalk.iteOmega, beforeI, *]; done) | (simp [results, Try.results30, go_sem, ↓IntWalk.iteOmega, beforeI, *]; omega) | (simp [results, Try.results30, go_sem, ↓IntWalk.iteOmega, beforeI, *]; simp_all [beforeI]; done)
      · (repeat' (first | exact Below.refl _ _ | assumption | refine Below.setCell ?_ ?_ _ | refine Below.drew ?_ | refine Below.alloc ?_ ?_ _ | refine Below.trans ?_ (Below.mono (by assumption) ?_) | (simp; done) | (simp; omega) | omega))
  have hbd1 := legB_bd hs1
  go_enter Try.func30, Try.ntmps30
  go_wp2_with (first | (go_at_call 55; refine (c_spec_l13Good _ _ _ ).mono ?_; rintro e w' ⟨rfl, hb⟩; have hc := cellOf hb; have hf := frozOf hb; have hz := sizeOf hb; try simp at hz) | (go_at_call 61; refine (c_spec_l13Leg _ _ _ ).mono ?_; rintro e w' ⟨rfl, hb⟩; have hc := cellOf hb; have hf := frozOf hb; have hz := sizeOf hb; try simp at hz) | (go_at_call 56; refine (c_spec_l8Minute _ _ ).mono ?_; rintro e w' ⟨rfl, hb⟩; have hc := cellOf hb; have hf := frozOf hb; have hz := sizeOf hb; try simp at hz) | (go_at_call 58; refine (c_spec_l1Most _ _ _ ).mono ?_; rintro e w' ⟨rfl, hb⟩; have hc := cellOf hb; have hf := frozOf hb; have hz := sizeOf hb; try simp at hz) | (go_at_call 60; refine (c_spec_l1Least _ _ _ ).mono ?_; rintro e w' ⟨rfl, hb⟩; have hc := cellOf hb; have hf := frozOf hb; have hz := sizeOf hb; try simp at hz) | (go_at_call 62; refine (c_spec_l13Checked _ _ _ ).mono ?_; rintro e w' ⟨rfl, hb⟩; have hc := cellOf hb; have hf := frozOf hb; have hz := sizeOf hb; try simp at hz) | (go_at_call 63; refine (c_spec_l13After _ _ _ _ _ (by omega) (by omega) (by omega) (by omega)).mono ?_; rintro e w' ⟨rfl, hb⟩; have hc := cellOf hb; have hf := frozOf hb; have hz := sizeOf hb; try simp at hz) | (go_at_call 66; refine (c_spec_l13Before _ _ _ _ _ (by omega) (by omega) (by omega) (by omega)).mono ?_; rintro e w' ⟨rfl, hb⟩; have hc := cellOf hb; have hf := frozOf hb; have hz := sizeOf hb; try simp at hz) | (go_at_call 65; refine (c_spec_l13Common _ _ _ _ _ ).mono ?_; rintro e w' ⟨rfl, hb⟩; have hc := cellOf hb; have hf := frozOf hb; have hz := sizeOf hb; try simp at hz))
  all_goals
    refine bodyPost_ret (v := .tuple #[.agg #[.int .i64 ((beforeI a b l m).1.1), .int .i64 ((beforeI a b l m).1.2)], .bool ((beforeI a b l m).2)]) ?_ rfl ⟨rfl, ?_⟩
    · first | (simp [results, Try.results30, go_sem, ↓IntWalk.iteOmega, beforeI, *]; done) | (simp [results, Try.results30, go_sem, ↓IntWalk.iteOmega, beforeI, *]; omega) | (simp [results, Try.results30, go_sem, ↓IntWalk.iteOmega, beforeI, *]; simp_all [beforeI]; done)
    · (repeat' (first | exact Below.refl _ _ | assumption | refine Below.setCell ?_ ?_ _ | refine Below.drew ?_ | refine Below.alloc ?_ ?_ _ | refine Below.trans ?_ (Below.mono (by assumption) ?_) | (simp; done) | (simp; omega) | omega))

set_option maxHeartbeats 2000000 in
theorem c_spec_CommonInterval (a b c d : Int) (w : World)  :
    Calls Try.prog 28 #[.agg #[.int .i64 (a), .int .i64 (b)], .agg #[.int .i64 (c), .int .i64 (d)]] w fun e w' => e = .returned (.tuple #[.agg #[.int .i64 ((commonI a b c d).1.1), .int .i64 ((commonI a b c d).1.2)], .bool ((commonI a b c d).2)]) ∧ Below w.heap.size w w' := by
  by_cases hs0 : goodI a b = true
  rotate_left
  · have hn : goodI a b = false := Bool.eq_false_iff.2 hs0
    clear hs0
    go_enter Try.func28, Try.ntmps28
    go_wp2_with (first | (go_at_call 55; refine (c_spec_l13Good _ _ _ ).mono ?_; rintro e w' ⟨rfl, hb⟩; have hc := cellOf hb; have hf := frozOf hb; have hz := sizeOf hb; try simp at hz) | (go_at_call 61; refine (c_spec_l13Leg _ _ _ ).mono ?_; rintro e w' ⟨rfl, hb⟩; have hc := cellOf hb; have hf := frozOf hb; have hz := sizeOf hb; try simp at hz) | (go_at_call 56; refine (c_spec_l8Minute _ _ ).mono ?_; rintro e w' ⟨rfl, hb⟩; have hc := cellOf hb; have hf := frozOf hb; have hz := sizeOf hb; try simp at hz) | (go_at_call 58; refine (c_spec_l1Most _ _ _ ).mono ?_; rintro e w' ⟨rfl, hb⟩; have hc := cellOf hb; have hf := frozOf hb; have hz := sizeOf hb; try simp at hz) | (go_at_call 60; refine (c_spec_l1Least _ _ _ ).mono ?_; rintro e w' ⟨rfl, hb⟩; have hc := cellOf hb; have hf := frozOf hb; have hz := sizeOf hb; try simp at hz) | (go_at_call 62; refine (c_spec_l13Checked _ _ _ ).mono ?_; rintro e w' ⟨rfl, hb⟩; have hc := cellOf hb; have hf := frozOf hb; have hz := sizeOf hb; try simp at hz) | (go_at_call 63; refine (c_spec_l13After _ _ _ _ _ (by omega) (by omega) (by omega) (by omega)).mono ?_; rintro e w' ⟨rfl, hb⟩; have hc := cellOf hb; have hf := frozOf hb; have hz := sizeOf hb; try simp at hz) | (go_at_call 66; refine (c_spec_l13Before _ _ _ _ _ (by omega) (by omega) (by omega) (by omega)).mono ?_; rintro e w' ⟨rfl, hb⟩; have hc := cellOf hb; have hf := frozOf hb; have hz := sizeOf hb; try simp at hz) | (go_at_call 65; refine (c_spec_l13Common _ _ _ _ _ ).mono ?_; rintro e w' ⟨rfl, hb⟩; have hc := cellOf hb; have hf := frozOf hb; have hz := sizeOf hb; try simp at hz))
    all_goals
      refine bodyPost_ret (v := .tuple #[.agg #[.int .i64 ((commonI a b c d).1.1), .int .i64 ((commonI a b c d).1.2)], .bool ((commonI a b c d).2)]) ?_ rfl ⟨rfl, ?_⟩
      · first | (simp [results, Try.results28, go_sem, ↓IntWalk.iteOmega, commonI, *]; done) | (simp [results, Try.results28, go_sem, ↓IntWalk.iteOmega, commonI, *]; omega) | (simp [results, Try.results28, go_sem, ↓IntWalk.iteOmega, commonI, *]; simp_all [commonI]; done)
      · (repeat' (first | exact Below.refl _ _ | assumption | refine Below.setCell ?_ ?_ _ | refine Below.drew ?_ | refine Below.alloc ?_ ?_ _ | refine Below.trans ?_ (Below.mono (by assumption) ?_) | (simp; done) | (simp; omega) | omega))
  have hbd0 := goodI_bd hs0
  by_cases hs1 : goodI c d = true
  rotate_left
  · have hn : goodI c d = false := Bool.eq_false_iff.2 hs1
    clear hs1
    go_enter Try.func28, Try.ntmps28
    go_wp2_with (first | (go_at_call 55; refine (c_spec_l13Good _ _ _ ).mono ?_; rintro e w' ⟨rfl, hb⟩; have hc := cellOf hb; have hf := frozOf hb; have hz := sizeOf hb; try simp at hz) | (go_at_call 61; refine (c_spec_l13Leg _ _ _ ).mono ?_; rintro e w' ⟨rfl, hb⟩; have hc := cellOf hb; have hf := frozOf hb; have hz := sizeOf hb; try simp at hz) | (go_at_call 56; refine (c_spec_l8Minute _ _ ).mono ?_; rintro e w' ⟨rfl, hb⟩; have hc := cellOf hb; have hf := frozOf hb; have hz := sizeOf hb; try simp at hz) | (go_at_call 58; refine (c_spec_l1Most _ _ _ ).mono ?_; rintro e w' ⟨rfl, hb⟩; have hc := cellOf hb; have hf := frozOf hb; have hz := sizeOf hb; try simp at hz) | (go_at_call 60; refine (c_spec_l1Least _ _ _ ).mono ?_; rintro e w' ⟨rfl, hb⟩; have hc := cellOf hb; have hf := frozOf hb; have hz := sizeOf hb; try simp at hz) | (go_at_call 62; refine (c_spec_l13Checked _ _ _ ).mono ?_; rintro e w' ⟨rfl, hb⟩; have hc := cellOf hb; have hf := frozOf hb; have hz := sizeOf hb; try simp at hz) | (go_at_call 63; refine (c_spec_l13After _ _ _ _ _ (by omega) (by omega) (by omega) (by omega)).mono ?_; rintro e w' ⟨rfl, hb⟩; have hc := cellOf hb; have hf := frozOf hb; have hz := sizeOf hb; try simp at hz) | (go_at_call 66; refine (c_spec_l13Before _ _ _ _ _ (by omega) (by omega) (by omega) (by omega)).mono ?_; rintro e w' ⟨rfl, hb⟩; have hc := cellOf hb; have hf := frozOf hb; have hz := sizeOf hb; try simp at hz) | (go_at_call 65; refine (c_spec_l13Common _ _ _ _ _ ).mono ?_; rintro e w' ⟨rfl, hb⟩; have hc := cellOf hb; have hf := frozOf hb; have hz := sizeOf hb; try simp at hz))
    all_goals
      refine bodyPost_ret (v := .tuple #[.agg #[.int .i64 ((commonI a b c d).1.1), .int .i64 ((commonI a b c d).1.2)], .bool ((commonI a b c d).2)]) ?_ rfl ⟨rfl, ?_⟩
      · first | (simp [results, Try.results28, go_sem, ↓IntWalk.iteOmega, commonI, *]; done) | (simp [results, Try.results28, go_sem, ↓IntWalk.iteOmega, commonI, *]; omega) | (simp [results, Try.results28, go_sem, ↓IntWalk.iteOmega, commonI, *]; simp_all [commonI]; done)
      · (repeat' (first | exact Below.refl _ _ | assumption | refine Below.setCell ?_ ?_ _ | refine Below.drew ?_ | refine Below.alloc ?_ ?_ _ | refine Below.trans ?_ (Below.mono (by assumption) ?_) | (simp; done) | (simp; omega) | omega))
  have hbd1 := goodI_bd hs1
  go_enter Try.func28, Try.ntmps28
  go_wp2_with (first | (go_at_call 55; refine (c_spec_l13Good _ _ _ ).mono ?_; rintro e w' ⟨rfl, hb⟩; have hc := cellOf hb; have hf := frozOf hb; have hz := sizeOf hb; try simp at hz) | (go_at_call 61; refine (c_spec_l13Leg _ _ _ ).mono ?_; rintro e w' ⟨rfl, hb⟩; have hc := cellOf hb; have hf := frozOf hb; have hz := sizeOf hb; try simp at hz) | (go_at_call 56; refine (c_spec_l8Minute _ _ ).mono ?_; rintro e w' ⟨rfl, hb⟩; have hc := cellOf hb; have hf := frozOf hb; have hz := sizeOf hb; try simp at hz) | (go_at_call 58; refine (c_spec_l1Most _ _ _ ).mono ?_; rintro e w' ⟨rfl, hb⟩; have hc := cellOf hb; have hf := frozOf hb; have hz := sizeOf hb; try simp at hz) | (go_at_call 60; refine (c_spec_l1Least _ _ _ ).mono ?_; rintro e w' ⟨rfl, hb⟩; have hc := cellOf hb; have hf := frozOf hb; have hz := sizeOf hb; try simp at hz) | (go_at_call 62; refine (c_spec_l13Checked _ _ _ ).mono ?_; rintro e w' ⟨rfl, hb⟩; have hc := cellOf hb; have hf := frozOf hb; have hz := sizeOf hb; try simp at hz) | (go_at_call 63; refine (c_spec_l13After _ _ _ _ _ (by omega) (by omega) (by omega) (by omega)).mono ?_; rintro e w' ⟨rfl, hb⟩; have hc := cellOf hb; have hf := frozOf hb; have hz := sizeOf hb; try simp at hz) | (go_at_call 66; refine (c_spec_l13Before _ _ _ _ _ (by omega) (by omega) (by omega) (by omega)).mono ?_; rintro e w' ⟨rfl, hb⟩; have hc := cellOf hb; have hf := frozOf hb; have hz := sizeOf hb; try simp at hz) | (go_at_call 65; refine (c_spec_l13Common _ _ _ _ _ ).mono ?_; rintro e w' ⟨rfl, hb⟩; have hc := cellOf hb; have hf := frozOf hb; have hz := sizeOf hb; try simp at hz))
  all_goals
    refine bodyPost_ret (v := .tuple #[.agg #[.int .i64 ((commonI a b c d).1.1), .int .i64 ((commonI a b c d).1.2)], .bool ((commonI a b c d).2)]) ?_ rfl ⟨rfl, ?_⟩
    · first | (simp [results, Try.results28, go_sem, ↓IntWalk.iteOmega, commonI, *]; done) | (simp [results, Try.results28, go_sem, ↓IntWalk.iteOmega, commonI, *]; omega) | (simp [results, Try.results28, go_sem, ↓IntWalk.iteOmega, commonI, *]; simp_all [commonI]; done)
    · (repeat' (first | exact Below.refl _ _ | assumption | refine Below.setCell ?_ ?_ _ | refine Below.drew ?_ | refine Below.alloc ?_ ?_ _ | refine Below.trans ?_ (Below.mono (by assumption) ?_) | (simp; done) | (simp; omega) | omega))

def FS20_3 (a b m : Int) (w W0 : World) (iq : Nat) (v : Value) (w1 : World) : Prop := match iq with
  | 0 => v = .pointer (some ⟨w.heap.size, 0, none⟩)
  | 1 => v = .int .i64 (a)
  | 2 => v = .int .i64 (m)
  | 3 => v = .int .i64 (max a (m))
  | 4 => v = .pointer (some ⟨w.heap.size, 1, none⟩)
  | 5 => v = .int .i64 (b)
  | 6 => v = .int .i64 (m)
  | 7 => v = .int .i64 (max (b) (m))
  | 8 => v = .agg #[.int .i64 (max a (m)), .int .i64 (max (b) (m))]
  | _ => True

set_option maxHeartbeats 2000000 in
theorem c_spec_NotBefore (a b m : Int) (w : World)  :
    Calls Try.prog 20 #[.agg #[.int .i64 (a), .int .i64 (b)], .int .i64 (m)] w fun e w' => e = .returned (.tuple #[.agg #[.int .i64 ((notBefI a b m).1.1), .int .i64 ((notBefI a b m).1.2)], .bool ((notBefI a b m).2)]) ∧ Below w.heap.size w w' := by
  by_cases hs0 : goodI a b = true
  rotate_left
  · have hn : goodI a b = false := Bool.eq_false_iff.2 hs0
    clear hs0
    go_enter Try.func20, Try.ntmps20
    go_wp2_with (first | (go_at_call 55; refine (c_spec_l13Good _ _ _ ).mono ?_; rintro e w' ⟨rfl, hb⟩; have hc := cellOf hb; have hf := frozOf hb; have hz := sizeOf hb; try simp at hz) | (go_at_call 61; refine (c_spec_l13Leg _ _ _ ).mono ?_; rintro e w' ⟨rfl, hb⟩; have hc := cellOf hb; have hf := frozOf hb; have hz := sizeOf hb; try simp at hz) | (go_at_call 56; refine (c_spec_l8Minute _ _ ).mono ?_; rintro e w' ⟨rfl, hb⟩; have hc := cellOf hb; have hf := frozOf hb; have hz := sizeOf hb; try simp at hz) | (go_at_call 58; refine (c_spec_l1Most _ _ _ ).mono ?_; rintro e w' ⟨rfl, hb⟩; have hc := cellOf hb; have hf := frozOf hb; have hz := sizeOf hb; try simp at hz) | (go_at_call 60; refine (c_spec_l1Least _ _ _ ).mono ?_; rintro e w' ⟨rfl, hb⟩; have hc := cellOf hb; have hf := frozOf hb; have hz := sizeOf hb; try simp at hz) | (go_at_call 62; refine (c_spec_l13Checked _ _ _ ).mono ?_; rintro e w' ⟨rfl, hb⟩; have hc := cellOf hb; have hf := frozOf hb; have hz := sizeOf hb; try simp at hz) | (go_at_call 63; refine (c_spec_l13After _ _ _ _ _ (by omega) (by omega) (by omega) (by omega)).mono ?_; rintro e w' ⟨rfl, hb⟩; have hc := cellOf hb; have hf := frozOf hb; have hz := sizeOf hb; try simp at hz) | (go_at_call 66; refine (c_spec_l13Before _ _ _ _ _ (by omega) (by omega) (by omega) (by omega)).mono ?_; rintro e w' ⟨rfl, hb⟩; have hc := cellOf hb; have hf := frozOf hb; have hz := sizeOf hb; try simp at hz) | (go_at_call 65; refine (c_spec_l13Common _ _ _ _ _ ).mono ?_; rintro e w' ⟨rfl, hb⟩; have hc := cellOf hb; have hf := frozOf hb; have hz := sizeOf hb; try simp at hz))
    all_goals
      refine bodyPost_ret (v := .tuple #[.agg #[.int .i64 ((notBefI a b m).1.1), .int .i64 ((notBefI a b m).1.2)], .bool ((notBefI a b m).2)]) ?_ rfl ⟨rfl, ?_⟩
      · first | (simp [results, Try.results20, go_sem, ↓IntWalk.iteOmega, notBefI, *]; done) | (simp [results, Try.results20, go_sem, ↓IntWalk.iteOmega, notBefI, *]; omega) | (simp [results, Try.results20, go_sem, ↓IntWalk.iteOmega, notBefI, *]; simp_all [notBefI]; done)
      · (repeat' (first | exact Below.refl _ _ | assumption | refine Below.setCell ?_ ?_ _ | refine Below.drew ?_ | refine Below.alloc ?_ ?_ _ | refine Below.trans ?_ (Below.mono (by assumption) ?_) | (simp; done) | (simp; omega) | omega))
  have hbd0 := goodI_bd hs0
  by_cases hs1 : minB m = true
  rotate_left
  · have hn : minB m = false := Bool.eq_false_iff.2 hs1
    clear hs1
    go_enter Try.func20, Try.ntmps20
    go_wp2_with (first | (go_at_call 55; refine (c_spec_l13Good _ _ _ ).mono ?_; rintro e w' ⟨rfl, hb⟩; have hc := cellOf hb; have hf := frozOf hb; have hz := sizeOf hb; try simp at hz) | (go_at_call 61; refine (c_spec_l13Leg _ _ _ ).mono ?_; rintro e w' ⟨rfl, hb⟩; have hc := cellOf hb; have hf := frozOf hb; have hz := sizeOf hb; try simp at hz) | (go_at_call 56; refine (c_spec_l8Minute _ _ ).mono ?_; rintro e w' ⟨rfl, hb⟩; have hc := cellOf hb; have hf := frozOf hb; have hz := sizeOf hb; try simp at hz) | (go_at_call 58; refine (c_spec_l1Most _ _ _ ).mono ?_; rintro e w' ⟨rfl, hb⟩; have hc := cellOf hb; have hf := frozOf hb; have hz := sizeOf hb; try simp at hz) | (go_at_call 60; refine (c_spec_l1Least _ _ _ ).mono ?_; rintro e w' ⟨rfl, hb⟩; have hc := cellOf hb; have hf := frozOf hb; have hz := sizeOf hb; try simp at hz) | (go_at_call 62; refine (c_spec_l13Checked _ _ _ ).mono ?_; rintro e w' ⟨rfl, hb⟩; have hc := cellOf hb; have hf := frozOf hb; have hz := sizeOf hb; try simp at hz) | (go_at_call 63; refine (c_spec_l13After _ _ _ _ _ (by omega) (by omega) (by omega) (by omega)).mono ?_; rintro e w' ⟨rfl, hb⟩; have hc := cellOf hb; have hf := frozOf hb; have hz := sizeOf hb; try simp at hz) | (go_at_call 66; refine (c_spec_l13Before _ _ _ _ _ (by omega) (by omega) (by omega) (by omega)).mono ?_; rintro e w' ⟨rfl, hb⟩; have hc := cellOf hb; have hf := frozOf hb; have hz := sizeOf hb; try simp at hz) | (go_at_call 65; refine (c_spec_l13Common _ _ _ _ _ ).mono ?_; rintro e w' ⟨rfl, hb⟩; have hc := cellOf hb; have hf := frozOf hb; have hz := sizeOf hb; try simp at hz))
    all_goals
      refine bodyPost_ret (v := .tuple #[.agg #[.int .i64 ((notBefI a b m).1.1), .int .i64 ((notBefI a b m).1.2)], .bool ((notBefI a b m).2)]) ?_ rfl ⟨rfl, ?_⟩
      · first | (simp [results, Try.results20, go_sem, ↓IntWalk.iteOmega, notBefI, *]; done) | (simp [results, Try.results20, go_sem, ↓IntWalk.iteOmega, notBefI, *]; omega) | (simp [results, Try.results20, go_sem, ↓IntWalk.iteOmega, notBefI, *]; simp_all [notBefI]; done)
      · (repeat' (first | exact Below.refl _ _ | assumption | refine Below.setCell ?_ ?_ _ | refine Below.drew ?_ | refine Below.alloc ?_ ?_ _ | refine Below.trans ?_ (Below.mono (by assumption) ?_) | (simp; done) | (simp; omega) | omega))
  have hbd1 := minB_bd hs1
  go_enter Try.func20, Try.ntmps20
  go_wp2_with (first | (go_at_call 55; refine (c_spec_l13Good _ _ _ ).mono ?_; rintro e w' ⟨rfl, hb⟩; have hc := cellOf hb; have hf := frozOf hb; have hz := sizeOf hb; try simp at hz) | (go_at_call 61; refine (c_spec_l13Leg _ _ _ ).mono ?_; rintro e w' ⟨rfl, hb⟩; have hc := cellOf hb; have hf := frozOf hb; have hz := sizeOf hb; try simp at hz) | (go_at_call 56; refine (c_spec_l8Minute _ _ ).mono ?_; rintro e w' ⟨rfl, hb⟩; have hc := cellOf hb; have hf := frozOf hb; have hz := sizeOf hb; try simp at hz) | (go_at_call 58; refine (c_spec_l1Most _ _ _ ).mono ?_; rintro e w' ⟨rfl, hb⟩; have hc := cellOf hb; have hf := frozOf hb; have hz := sizeOf hb; try simp at hz) | (go_at_call 60; refine (c_spec_l1Least _ _ _ ).mono ?_; rintro e w' ⟨rfl, hb⟩; have hc := cellOf hb; have hf := frozOf hb; have hz := sizeOf hb; try simp at hz) | (go_at_call 62; refine (c_spec_l13Checked _ _ _ ).mono ?_; rintro e w' ⟨rfl, hb⟩; have hc := cellOf hb; have hf := frozOf hb; have hz := sizeOf hb; try simp at hz) | (go_at_call 63; refine (c_spec_l13After _ _ _ _ _ (by omega) (by omega) (by omega) (by omega)).mono ?_; rintro e w' ⟨rfl, hb⟩; have hc := cellOf hb; have hf := frozOf hb; have hz := sizeOf hb; try simp at hz) | (go_at_call 66; refine (c_spec_l13Before _ _ _ _ _ (by omega) (by omega) (by omega) (by omega)).mono ?_; rintro e w' ⟨rfl, hb⟩; have hc := cellOf hb; have hf := frozOf hb; have hz := sizeOf hb; try simp at hz) | (go_at_call 65; refine (c_spec_l13Common _ _ _ _ _ ).mono ?_; rintro e w' ⟨rfl, hb⟩; have hc := cellOf hb; have hf := frozOf hb; have hz := sizeOf hb; try simp at hz))
  refine wp_region_w (n := 9) [] [] (FS20_3 a b m w) rfl (by kernel_rfl) (fun _ _ d _ _ h => by cases d <;> exact h) ?_ ?_ ?_ ?_ ?_ ?_
  · intro iq
    match iq with
    | 0 | 1 | 2 | 3 | 4 | 5 | 6 | 7 | 8 => exact Stable.const _
    | n + 9 => exact Stable.const _
  · intro iq hi
    exact absurd hi (by simp)
  · intro iq hi
    exact absurd hi (by simp)
  · intro iq o hi hl ho vals w1 hb1 hf
    exact absurd hl (by simp)
  · intro iq o hi hl ho vals w1 hb1 hf
    match iq, hi with
    | 0, _ =>
      injection ho with ho
      subst ho
      clear hl
      simp only [fillA, List.take, List.drop, put_none, Act.put, List.setIfInBounds_toArray, List.set_cons_zero, List.set_cons_succ, Nat.reduceAdd]
      clear hf
      go_wp2_with (fail)
      exact RQ.mk rfl ⟨(by first | rfl | (simp [FS20_3]; done) | (simp [FS20_3, *]; done) | (simp [FS20_3, gotV]; done) | (simp [FS20_3, gotV]; omega)), fun h => absurd h (by decide)⟩ (Below.refl _ _)
    | 1, _ =>
      injection ho with ho
      subst ho
      clear hl
      simp only [fillA, List.take, List.drop, put_none, Act.put, List.setIfInBounds_toArray, List.set_cons_zero, List.set_cons_succ, Nat.reduceAdd]
      have f0 := hf 0 (by decide) (by kernel_rfl)
      generalize vals 0 = v0 at *
      subst f0
      clear hf
      have hc1 := cellOf hb1
      have hf1 := frozOf hb1
      have hz1 := sizeOf hb1
      try simp at hz1
      go_wp2_with (fail)
      exact RQ.mk rfl ⟨(by first | rfl | (simp [FS20_3]; done) | (simp [FS20_3, *]; done) | (simp [FS20_3, gotV]; done) | (simp [FS20_3, gotV]; omega)), fun h => absurd h (by decide)⟩ (Below.refl _ _)
    | 2, _ =>
      injection ho with ho
      subst ho
      clear hl
      simp only [fillA, List.take, List.drop, put_none, Act.put, List.setIfInBounds_toArray, List.set_cons_zero, List.set_cons_succ, Nat.reduceAdd]
      clear hf
      go_wp2_with (fail)
      exact RQ.mk rfl ⟨(by first | rfl | (simp [FS20_3]; done) | (simp [FS20_3, *]; done) | (simp [FS20_3, gotV]; done) | (simp [FS20_3, gotV]; omega)), fun h => absurd h (by decide)⟩ (Below.refl _ _)
    | 3, _ =>
      injection ho with ho
      subst ho
      clear hl
      simp only [fillA, List.take, List.drop, put_none, Act.put, List.setIfInBounds_toArray, List.set_cons_zero, List.set_cons_succ, Nat.reduceAdd]
      have f1 := hf 1 (by decide) (by kernel_rfl)
      generalize vals 1 = v1 at *
      subst f1
      have f2 := hf 2 (by decide) (by kernel_rfl)
      generalize vals 2 = v2 at *
      subst f2
      clear hf
      have hc1 := cellOf hb1
      have hf1 := frozOf hb1
      have hz1 := sizeOf hb1
      try simp at hz1
      go_wp2_with (first | (go_at_call 58; refine (c_spec_l1Most _ _ _ ).mono ?_; rintro e w' ⟨rfl, hb⟩; have hc := cellOf hb; have hf := frozOf hb; have hz := sizeOf hb; try simp at hz))
      exact RQ.mk rfl ⟨(by first | rfl | (simp [FS20_3]; done) | (simp [FS20_3, *]; done) | (simp [FS20_3, gotV]; done) | (simp [FS20_3, gotV]; omega)), fun h => absurd h (by decide)⟩ (by (repeat' (first | exact Below.refl _ _ | assumption | refine Below.setCell ?_ ?_ _ | refine Below.drew ?_ | refine Below.alloc ?_ ?_ _ | refine Below.trans ?_ (Below.mono (by assumption) ?_) | (simp; done) | (simp; omega) | omega)))
    | 4, _ =>
      injection ho with ho
      subst ho
      clear hl
      simp only [fillA, List.take, List.drop, put_none, Act.put, List.setIfInBounds_toArray, List.set_cons_zero, List.set_cons_succ, Nat.reduceAdd]
      clear hf
      go_wp2_with (fail)
      exact RQ.mk rfl ⟨(by first | rfl | (simp [FS20_3]; done) | (simp [FS20_3, *]; done) | (simp [FS20_3, gotV]; done) | (simp [FS20_3, gotV]; omega)), fun h => absurd h (by decide)⟩ (Below.refl _ _)
    | 5, _ =>
      injection ho with ho
      subst ho
      clear hl
      simp only [fillA, List.take, List.drop, put_none, Act.put, List.setIfInBounds_toArray, List.set_cons_zero, List.set_cons_succ, Nat.reduceAdd]
      have f4 := hf 4 (by decide) (by kernel_rfl)
      generalize vals 4 = v4 at *
      subst f4
      clear hf
      have hc1 := cellOf hb1
      have hf1 := frozOf hb1
      have hz1 := sizeOf hb1
      try simp at hz1
      go_wp2_with (fail)
      exact RQ.mk rfl ⟨(by first | rfl | (simp [FS20_3]; done) | (simp [FS20_3, *]; done) | (simp [FS20_3, gotV]; done) | (simp [FS20_3, gotV]; omega)), fun h => absurd h (by decide)⟩ (Below.refl _ _)
    | 6, _ =>
      injection ho with ho
      subst ho
      clear hl
      simp only [fillA, List.take, List.drop, put_none, Act.put, List.setIfInBounds_toArray, List.set_cons_zero, List.set_cons_succ, Nat.reduceAdd]
      clear hf
      go_wp2_with (fail)
      exact RQ.mk rfl ⟨(by first | rfl | (simp [FS20_3]; done) | (simp [FS20_3, *]; done) | (simp [FS20_3, gotV]; done) | (simp [FS20_3, gotV]; omega)), fun h => absurd h (by decide)⟩ (Below.refl _ _)
    | 7, _ =>
      injection ho with ho
      subst ho
      clear hl
      simp only [fillA, List.take, List.drop, put_none, Act.put, List.setIfInBounds_toArray, List.set_cons_zero, List.set_cons_succ, Nat.reduceAdd]
      have f5 := hf 5 (by decide) (by kernel_rfl)
      generalize vals 5 = v5 at *
      subst f5
      have f6 := hf 6 (by decide) (by kernel_rfl)
      generalize vals 6 = v6 at *
      subst f6
      have f3 := hf 3 (by decide) (by kernel_rfl)
      generalize vals 3 = v3 at *
      subst f3
      clear hf
      have hc1 := cellOf hb1
      have hf1 := frozOf hb1
      have hz1 := sizeOf hb1
      try simp at hz1
      go_wp2_with (first | (go_at_call 58; refine (c_spec_l1Most _ _ _ ).mono ?_; rintro e w' ⟨rfl, hb⟩; have hc := cellOf hb; have hf := frozOf hb; have hz := sizeOf hb; try simp at hz))
      exact RQ.mk rfl ⟨(by first | rfl | (simp [FS20_3]; done) | (simp [FS20_3, *]; done) | (simp [FS20_3, gotV]; done) | (simp [FS20_3, gotV]; omega)), fun h => absurd h (by decide)⟩ (by (repeat' (first | exact Below.refl _ _ | assumption | refine Below.setCell ?_ ?_ _ | refine Below.drew ?_ | refine Below.alloc ?_ ?_ _ | refine Below.trans ?_ (Below.mono (by assumption) ?_) | (simp; done) | (simp; omega) | omega)))
    | 8, _ =>
      injection ho with ho
      subst ho
      clear hl
      simp only [fillA, List.take, List.drop, put_none, Act.put, List.setIfInBounds_toArray, List.set_cons_zero, List.set_cons_succ, Nat.reduceAdd]
      have f3 := hf 3 (by decide) (by kernel_rfl)
      generalize vals 3 = v3 at *
      subst f3
      have f7 := hf 7 (by decide) (by kernel_rfl)
      generalize vals 7 = v7 at *
      subst f7
      clear hf
      go_wp2_with (fail)
      exact RQ.mk rfl ⟨(by first | rfl | (simp [FS20_3]; done) | (simp [FS20_3, *]; done) | (simp [FS20_3, gotV]; done) | (simp [FS20_3, gotV]; omega)), fun h => absurd h (by decide)⟩ (Below.refl _ _)
  · intro vals w1 hb1 hf hd
    simp only [fillA, List.take, List.drop, put_none, Act.put, List.setIfInBounds_toArray, List.set_cons_zero, List.set_cons_succ, Nat.reduceAdd]
    clear hd
    have f0 := hf 0 (by decide)
    generalize vals 0 = v0 at *
    subst f0
    have f1 := hf 1 (by decide)
    generalize vals 1 = v1 at *
    subst f1
    have f2 := hf 2 (by decide)
    generalize vals 2 = v2 at *
    subst f2
    have f3 := hf 3 (by decide)
    generalize vals 3 = v3 at *
    subst f3
    have f4 := hf 4 (by decide)
    generalize vals 4 = v4 at *
    subst f4
    have f5 := hf 5 (by decide)
    generalize vals 5 = v5 at *
    subst f5
    have f6 := hf 6 (by decide)
    generalize vals 6 = v6 at *
    subst f6
    have f7 := hf 7 (by decide)
    generalize vals 7 = v7 at *
    subst f7
    have f8 := hf 8 (by decide)
    generalize vals 8 = v8 at *
    subst f8
    clear hf
    have hc1 := cellOf hb1
    have hf1 := frozOf hb1
    have hz1 := sizeOf hb1
    try simp at hz1
    go_wp2_with (first | (go_at_call 55; refine (c_spec_l13Good _ _ _ ).mono ?_; rintro e w' ⟨rfl, hb⟩; have hc := cellOf hb; have hf := frozOf hb; have hz := sizeOf hb; try simp at hz) | (go_at_call 61; refine (c_spec_l13Leg _ _ _ ).mono ?_; rintro e w' ⟨rfl, hb⟩; have hc := cellOf hb; have hf := frozOf hb; have hz := sizeOf hb; try simp at hz) | (go_at_call 56; refine (c_spec_l8Minute _ _ ).mono ?_; rintro e w' ⟨rfl, hb⟩; have hc := cellOf hb; have hf := frozOf hb; have hz := sizeOf hb; try simp at hz) | (go_at_call 58; refine (c_spec_l1Most _ _ _ ).mono ?_; rintro e w' ⟨rfl, hb⟩; have hc := cellOf hb; have hf := frozOf hb; have hz := sizeOf hb; try simp at hz) | (go_at_call 60; refine (c_spec_l1Least _ _ _ ).mono ?_; rintro e w' ⟨rfl, hb⟩; have hc := cellOf hb; have hf := frozOf hb; have hz := sizeOf hb; try simp at hz) | (go_at_call 62; refine (c_spec_l13Checked _ _ _ ).mono ?_; rintro e w' ⟨rfl, hb⟩; have hc := cellOf hb; have hf := frozOf hb; have hz := sizeOf hb; try simp at hz) | (go_at_call 63; refine (c_spec_l13After _ _ _ _ _ (by omega) (by omega) (by omega) (by omega)).mono ?_; rintro e w' ⟨rfl, hb⟩; have hc := cellOf hb; have hf := frozOf hb; have hz := sizeOf hb; try simp at hz) | (go_at_call 66; refine (c_spec_l13Before _ _ _ _ _ (by omega) (by omega) (by omega) (by omega)).mono ?_; rintro e w' ⟨rfl, hb⟩; have hc := cellOf hb; have hf := frozOf hb; have hz := sizeOf hb; try simp at hz) | (go_at_call 65; refine (c_spec_l13Common _ _ _ _ _ ).mono ?_; rintro e w' ⟨rfl, hb⟩; have hc := cellOf hb; have hf := frozOf hb; have hz := sizeOf hb; try simp at hz))
    all_goals
      refine bodyPost_ret (v := .tuple #[.agg #[.int .i64 ((notBefI a b m).1.1), .int .i64 ((notBefI a b m).1.2)], .bool ((notBefI a b m).2)]) ?_ rfl ⟨rfl, ?_⟩
      · first | (simp [results, Try.results20, go_sem, ↓IntWalk.iteOmega, notBefI, *]; done) | (simp [results, Try.results20, go_sem, ↓IntWalk.iteOmega, notBefI, *]; omega) | (simp [results, Try.results20, go_sem, ↓IntWalk.iteOmega, notBefI, *]; simp_all [notBefI]; done)
      · (repeat' (first | exact Below.refl _ _ | assumption | refine Below.setCell ?_ ?_ _ | refine Below.drew ?_ | refine Below.alloc ?_ ?_ _ | refine Below.trans ?_ (Below.mono (by assumption) ?_) | (simp; done) | (simp; omega) | omega))

set_option maxHeartbeats 2000000 in
theorem c_spec_InTime (a b m : Int) (w : World)  :
    Calls Try.prog 18 #[.agg #[.int .i64 (a), .int .i64 (b)], .int .i64 (m)] w fun e w' => e = .returned (.tuple #[.int .i64 ((inTimeI a b m).1), .bool ((inTimeI a b m).2)]) ∧ Below w.heap.size w w' := by
  by_cases hs0 : goodI a b = true
  rotate_left
  · have hn : goodI a b = false := Bool.eq_false_iff.2 hs0
    clear hs0
    go_enter Try.func18, Try.ntmps18
    go_wp2_with (first | (go_at_call 55; refine (c_spec_l13Good _ _ _ ).mono ?_; rintro e w' ⟨rfl, hb⟩; have hc := cellOf hb; have hf := frozOf hb; have hz := sizeOf hb; try simp at hz) | (go_at_call 61; refine (c_spec_l13Leg _ _ _ ).mono ?_; rintro e w' ⟨rfl, hb⟩; have hc := cellOf hb; have hf := frozOf hb; have hz := sizeOf hb; try simp at hz) | (go_at_call 56; refine (c_spec_l8Minute _ _ ).mono ?_; rintro e w' ⟨rfl, hb⟩; have hc := cellOf hb; have hf := frozOf hb; have hz := sizeOf hb; try simp at hz) | (go_at_call 58; refine (c_spec_l1Most _ _ _ ).mono ?_; rintro e w' ⟨rfl, hb⟩; have hc := cellOf hb; have hf := frozOf hb; have hz := sizeOf hb; try simp at hz) | (go_at_call 60; refine (c_spec_l1Least _ _ _ ).mono ?_; rintro e w' ⟨rfl, hb⟩; have hc := cellOf hb; have hf := frozOf hb; have hz := sizeOf hb; try simp at hz) | (go_at_call 62; refine (c_spec_l13Checked _ _ _ ).mono ?_; rintro e w' ⟨rfl, hb⟩; have hc := cellOf hb; have hf := frozOf hb; have hz := sizeOf hb; try simp at hz) | (go_at_call 63; refine (c_spec_l13After _ _ _ _ _ (by omega) (by omega) (by omega) (by omega)).mono ?_; rintro e w' ⟨rfl, hb⟩; have hc := cellOf hb; have hf := frozOf hb; have hz := sizeOf hb; try simp at hz) | (go_at_call 66; refine (c_spec_l13Before _ _ _ _ _ (by omega) (by omega) (by omega) (by omega)).mono ?_; rintro e w' ⟨rfl, hb⟩; have hc := cellOf hb; have hf := frozOf hb; have hz := sizeOf hb; try simp at hz) | (go_at_call 65; refine (c_spec_l13Common _ _ _ _ _ ).mono ?_; rintro e w' ⟨rfl, hb⟩; have hc := cellOf hb; have hf := frozOf hb; have hz := sizeOf hb; try simp at hz))
    all_goals go_ret2
    all_goals
      refine ⟨?_, ?_⟩
      · first | rfl | omega | (simp [inTimeI, hn]; done) | (simp [inTimeI, hn]; omega) | (simp [inTimeI, hn]; (repeat' split) <;> (first | omega | (simp; done) | (simp; omega))) | (simp_all [inTimeI]; done) | (simp_all [inTimeI]; omega)
      · (repeat' (first | exact Below.refl _ _ | assumption | refine Below.setCell ?_ ?_ _ | refine Below.drew ?_ | refine Below.alloc ?_ ?_ _ | refine Below.trans ?_ (Below.mono (by assumption) ?_) | (simp; done) | (simp; omega) | omega))
  have hbd0 := goodI_bd hs0
  by_cases hs1 : minB m = true
  rotate_left
  · have hn : minB m = false := Bool.eq_false_iff.2 hs1
    clear hs1
    go_enter Try.func18, Try.ntmps18
    go_wp2_with (first | (go_at_call 55; refine (c_spec_l13Good _ _ _ ).mono ?_; rintro e w' ⟨rfl, hb⟩; have hc := cellOf hb; have hf := frozOf hb; have hz := sizeOf hb; try simp at hz) | (go_at_call 61; refine (c_spec_l13Leg _ _ _ ).mono ?_; rintro e w' ⟨rfl, hb⟩; have hc := cellOf hb; have hf := frozOf hb; have hz := sizeOf hb; try simp at hz) | (go_at_call 56; refine (c_spec_l8Minute _ _ ).mono ?_; rintro e w' ⟨rfl, hb⟩; have hc := cellOf hb; have hf := frozOf hb; have hz := sizeOf hb; try simp at hz) | (go_at_call 58; refine (c_spec_l1Most _ _ _ ).mono ?_; rintro e w' ⟨rfl, hb⟩; have hc := cellOf hb; have hf := frozOf hb; have hz := sizeOf hb; try simp at hz) | (go_at_call 60; refine (c_spec_l1Least _ _ _ ).mono ?_; rintro e w' ⟨rfl, hb⟩; have hc := cellOf hb; have hf := frozOf hb; have hz := sizeOf hb; try simp at hz) | (go_at_call 62; refine (c_spec_l13Checked _ _ _ ).mono ?_; rintro e w' ⟨rfl, hb⟩; have hc := cellOf hb; have hf := frozOf hb; have hz := sizeOf hb; try simp at hz) | (go_at_call 63; refine (c_spec_l13After _ _ _ _ _ (by omega) (by omega) (by omega) (by omega)).mono ?_; rintro e w' ⟨rfl, hb⟩; have hc := cellOf hb; have hf := frozOf hb; have hz := sizeOf hb; try simp at hz) | (go_at_call 66; refine (c_spec_l13Before _ _ _ _ _ (by omega) (by omega) (by omega) (by omega)).mono ?_; rintro e w' ⟨rfl, hb⟩; have hc := cellOf hb; have hf := frozOf hb; have hz := sizeOf hb; try simp at hz) | (go_at_call 65; refine (c_spec_l13Common _ _ _ _ _ ).mono ?_; rintro e w' ⟨rfl, hb⟩; have hc := cellOf hb; have hf := frozOf hb; have hz := sizeOf hb; try simp at hz))
    all_goals go_ret2
    all_goals
      refine ⟨?_, ?_⟩
      · first | rfl | omega | (simp [inTimeI, hs0, hn]; done) | (simp [inTimeI, hs0, hn]; omega) | (simp [inTimeI, hs0, hn]; (repeat' split) <;> (first | omega | (simp; done) | (simp; omega))) | (simp_all [inTimeI]; done) | (simp_all [inTimeI]; omega)
      · (repeat' (first | exact Below.refl _ _ | assumption | refine Below.setCell ?_ ?_ _ | refine Below.drew ?_ | refine Below.alloc ?_ ?_ _ | refine Below.trans ?_ (Below.mono (by assumption) ?_) | (simp; done) | (simp; omega) | omega))
  have hbd1 := minB_bd hs1
  go_enter Try.func18, Try.ntmps18
  go_wp2_with (first | (go_at_call 55; refine (c_spec_l13Good _ _ _ ).mono ?_; rintro e w' ⟨rfl, hb⟩; have hc := cellOf hb; have hf := frozOf hb; have hz := sizeOf hb; try simp at hz) | (go_at_call 61; refine (c_spec_l13Leg _ _ _ ).mono ?_; rintro e w' ⟨rfl, hb⟩; have hc := cellOf hb; have hf := frozOf hb; have hz := sizeOf hb; try simp at hz) | (go_at_call 56; refine (c_spec_l8Minute _ _ ).mono ?_; rintro e w' ⟨rfl, hb⟩; have hc := cellOf hb; have hf := frozOf hb; have hz := sizeOf hb; try simp at hz) | (go_at_call 58; refine (c_spec_l1Most _ _ _ ).mono ?_; rintro e w' ⟨rfl, hb⟩; have hc := cellOf hb; have hf := frozOf hb; have hz := sizeOf hb; try simp at hz) | (go_at_call 60; refine (c_spec_l1Least _ _ _ ).mono ?_; rintro e w' ⟨rfl, hb⟩; have hc := cellOf hb; have hf := frozOf hb; have hz := sizeOf hb; try simp at hz) | (go_at_call 62; refine (c_spec_l13Checked _ _ _ ).mono ?_; rintro e w' ⟨rfl, hb⟩; have hc := cellOf hb; have hf := frozOf hb; have hz := sizeOf hb; try simp at hz) | (go_at_call 63; refine (c_spec_l13After _ _ _ _ _ (by omega) (by omega) (by omega) (by omega)).mono ?_; rintro e w' ⟨rfl, hb⟩; have hc := cellOf hb; have hf := frozOf hb; have hz := sizeOf hb; try simp at hz) | (go_at_call 66; refine (c_spec_l13Before _ _ _ _ _ (by omega) (by omega) (by omega) (by omega)).mono ?_; rintro e w' ⟨rfl, hb⟩; have hc := cellOf hb; have hf := frozOf hb; have hz := sizeOf hb; try simp at hz) | (go_at_call 65; refine (c_spec_l13Common _ _ _ _ _ ).mono ?_; rintro e w' ⟨rfl, hb⟩; have hc := cellOf hb; have hf := frozOf hb; have hz := sizeOf hb; try simp at hz))
  all_goals go_ret2
  all_goals
    refine ⟨?_, ?_⟩
    · first | rfl | omega | (simp [inTimeI, hs0, hs1]; done) | (simp [inTimeI, hs0, hs1]; omega) | (simp [inTimeI, hs0, hs1]; (repeat' split) <;> (first | omega | (simp; done) | (simp; omega))) | (simp_all [inTimeI]; done) | (simp_all [inTimeI]; omega)
    · (repeat' (first | exact Below.refl _ _ | assumption | refine Below.setCell ?_ ?_ _ | refine Below.drew ?_ | refine Below.alloc ?_ ?_ _ | refine Below.trans ?_ (Below.mono (by assumption) ?_) | (simp; done) | (simp; omega) | omega))

end Go.Proofs.Ythlmeofjjmfpnaa
