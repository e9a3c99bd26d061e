import Derived.Test.YthlmeofjjmfpnaaT2
namespace Go.Proofs.Ythlmeofjjmfpnaa
set_option linter.unusedSimpArgs false
set_option linter.unusedVariables false
open Go.RowKit

set_option maxHeartbeats 2000000 in
theorem c_impl_AfterLeg (a b l m : Int) (w : World)  :
    Calls Try.prog 27 #[.agg #[.int .i64 (a), .int .i64 (b)], .agg #[.int .i64 (l), .int .i64 (m)]] w fun e w' => e = .returned (.tuple #[.agg #[.int .i64 ((afterI a b l m).1.1), .int .i64 ((afterI a b l m).1.2)], .bool ((afterI a b l m).2)]) ∧ Below w.heap.size w w' := by
  by_cases hs0 : goodI a b = true
  rotate_left
  · have hn : goodI a b = false := Bool.eq_false_iff.2 hs0
    clear hs0
    go_enter Try.func27, Try.ntmps27
    go_wp2_with (first | (go_at_call 17; refine (c_impl_IsInterval _ _ _ ).mono ?_; rintro e w' ⟨rfl, hb⟩; have hc := cellOf hb; have hf := frozOf hb; have hz := sizeOf hb; try simp at hz) | (go_at_call 64; refine (c_impl_isLeg _ _ _ ).mono ?_; rintro e w' ⟨rfl, hb⟩; have hc := cellOf hb; have hf := frozOf hb; have hz := sizeOf hb; try simp at hz) | (go_at_call 57; refine (c_impl_isMinute _ _ ).mono ?_; rintro e w' ⟨rfl, hb⟩; have hc := cellOf hb; have hf := frozOf hb; have hz := sizeOf hb; try simp at hz) | (go_at_call 59; refine (c_impl_asInterval _ _ _ ).mono ?_; rintro e w' ⟨rfl, hb⟩; have hc := cellOf hb; have hf := frozOf hb; have hz := sizeOf hb; try simp at hz))
    all_goals
      refine bodyPost_ret (v := .tuple #[.agg #[.int .i64 ((afterI a b l m).1.1), .int .i64 ((afterI a b l m).1.2)], .bool ((afterI a b l m).2)]) ?_ rfl ⟨rfl, ?_⟩
      · first | (simp [results, Try.results27, go_sem, ↓IntWalk.iteOmega, afterI, *]; done) | (simp [results, Try.results27, go_sem, ↓IntWalk.iteOmega, afterI, *]; omega) | (simp [results, Try.results27, go_sem, ↓IntWalk.iteOmega, afterI, *]; simp_all [afterI]; done)
      · (repeat' (first | exact Below.refl _ _ | assumption | refine Below.setCell ?_ ?_ _ | refine Below.drew ?_ | refine Below.alloc ?_ ?_ _ | refine Below.trans ?_ (Below.mono (by assumption) ?_) | (simp; done) | (simp; omega) | omega))
  have hbd0 := goodI_bd hs0
  by_cases hs1 : legB l m = true
  rotate_left
  · have hn : legB l m = false := Bool.eq_false_iff.2 hs1
    clear hs1
    go_enter Try.func27, Try.ntmps27
    go_wp2_with (first | (go_at_call 17; refine (c_impl_IsInterval _ _ _ ).mono ?_; rintro e w' ⟨rfl, hb⟩; have hc := cellOf hb; have hf := frozOf hb; have hz := sizeOf hb; try simp at hz) | (go_at_call 64; refine (c_impl_isLeg _ _ _ ).mono ?_; rintro e w' ⟨rfl, hb⟩; have hc := cellOf hb; have hf := frozOf hb; have hz := sizeOf hb; try simp at hz) | (go_at_call 57; refine (c_impl_isMinute _ _ ).mono ?_; rintro e w' ⟨rfl, hb⟩; have hc := cellOf hb; have hf := frozOf hb; have hz := sizeOf hb; try simp at hz) | (go_at_call 59; refine (c_impl_asInterval _ _ _ ).mono ?_; rintro e w' ⟨rfl, hb⟩; have hc := cellOf hb; have hf := frozOf hb; have hz := sizeOf hb; try simp at hz))
    all_goals
      refine bodyPost_ret (v := .tuple #[.agg #[.int .i64 ((afterI a b l m).1.1), .int .i64 ((afterI a b l m).1.2)], .bool ((afterI a b l m).2)]) ?_ rfl ⟨rfl, ?_⟩
      · first | (simp [results, Try.results27, go_sem, ↓IntWalk.iteOmega, afterI, *]; done) | (simp [results, Try.results27, go_sem, ↓IntWalk.iteOmega, afterI, *]; omega) | (simp [results, Try.results27, go_sem, ↓IntWalk.iteOmega, afterI, *]; simp_all [afterI]; done)
      · (repeat' (first | exact Below.refl _ _ | assumption | refine Below.setCell ?_ ?_ _ | refine Below.drew ?_ | refine Below.alloc ?_ ?_ _ | refine Below.trans ?_ (Below.mono (by assumption) ?_) | (simp; done) | (simp; omega) | omega))
  have hbd1 := legB_bd hs1
  go_enter Try.func27, Try.ntmps27
  go_wp2_with (first | (go_at_call 17; refine (c_impl_IsInterval _ _ _ ).mono ?_; rintro e w' ⟨rfl, hb⟩; have hc := cellOf hb; have hf := frozOf hb; have hz := sizeOf hb; try simp at hz) | (go_at_call 64; refine (c_impl_isLeg _ _ _ ).mono ?_; rintro e w' ⟨rfl, hb⟩; have hc := cellOf hb; have hf := frozOf hb; have hz := sizeOf hb; try simp at hz) | (go_at_call 57; refine (c_impl_isMinute _ _ ).mono ?_; rintro e w' ⟨rfl, hb⟩; have hc := cellOf hb; have hf := frozOf hb; have hz := sizeOf hb; try simp at hz) | (go_at_call 59; refine (c_impl_asInterval _ _ _ ).mono ?_; rintro e w' ⟨rfl, hb⟩; have hc := cellOf hb; have hf := frozOf hb; have hz := sizeOf hb; try simp at hz))
  all_goals
    refine bodyPost_ret (v := .tuple #[.agg #[.int .i64 ((afterI a b l m).1.1), .int .i64 ((afterI a b l m).1.2)], .bool ((afterI a b l m).2)]) ?_ rfl ⟨rfl, ?_⟩
    · first | (simp [results, Try.results27, go_sem, ↓IntWalk.iteOmega, afterI, *]; done) | (simp [results, Try.results27, go_sem, ↓IntWalk.iteOmega, afterI, *]; omega) | (simp [results, Try.results27, go_sem, ↓IntWalk.iteOmega, afterI, *]; simp_all [afterI]; done)
    · (repeat' (first | exact Below.refl _ _ | assumption | refine Below.setCell ?_ ?_ _ | refine Below.drew ?_ | refine Below.alloc ?_ ?_ _ | refine Below.trans ?_ (Below.mono (by assumption) ?_) | (simp; done) | (simp; omega) | omega))

set_option maxHeartbeats 2000000 in
theorem c_impl_BeforeLeg (a b l m : Int) (w : World)  :
    Calls Try.prog 31 #[.agg #[.int .i64 (a), .int .i64 (b)], .agg #[.int .i64 (l), .int .i64 (m)]] w fun e w' => e = .returned (.tuple #[.agg #[.int .i64 ((beforeI a b l m).1.1), .int .i64 ((beforeI a b l m).1.2)], .bool ((beforeI a b l m).2)]) ∧ Below w.heap.size w w' := by
  by_cases hs0 : goodI a b = true
  rotate_left
  · have hn : goodI a b = false := Bool.eq_false_iff.2 hs0
    clear hs0
    go_enter Try.func31, Try.ntmps31
    go_wp2_with (first | (go_at_call 17; refine (c_impl_IsInterval _ _ _ ).mono ?_; rintro e w' ⟨rfl, hb⟩; have hc := cellOf hb; have hf := frozOf hb; have hz := sizeOf hb; try simp at hz) | (go_at_call 64; refine (c_impl_isLeg _ _ _ ).mono ?_; rintro e w' ⟨rfl, hb⟩; have hc := cellOf hb; have hf := frozOf hb; have hz := sizeOf hb; try simp at hz) | (go_at_call 57; refine (c_impl_isMinute _ _ ).mono ?_; rintro e w' ⟨rfl, hb⟩; have hc := cellOf hb; have hf := frozOf hb; have hz := sizeOf hb; try simp at hz) | (go_at_call 59; refine (c_impl_asInterval _ _ _ ).mono ?_; rintro e w' ⟨rfl, hb⟩; have hc := cellOf hb; have hf := frozOf hb; have hz := sizeOf hb; try simp at hz))
    all_goals
      refine bodyPost_ret (v := .tuple #[.agg #[.int .i64 ((beforeI a b l m).1.1), .int .i64 ((beforeI a b l m).1.2)], .bool ((beforeI a b l m).2)]) ?_ rfl ⟨rfl, ?_⟩
      · first | (simp [results, Try.results31, go_sem, ↓IntWalk.iteOmega, beforeI, *]; done) | (simp [results, Try.results31, go_sem, ↓IntWalk.iteOmega, beforeI, *]; omega) | (simp [results, Try.results31, go_sem, ↓IntWalk.iteOmega, beforeI, *]; simp_all [beforeI]; done)
      · (repeat' (first | exact Below.refl _ _ | assumption | refine Below.setCell ?_ ?_ _ | refine Below.drew ?_ | refine Below.alloc ?_ ?_ _ | refine Below.trans ?_ (Below.mono (by assumption) ?_) | (simp; done) | (simp; omega) | omega))
  have hbd0 := goodI_bd hs0
  by_cases hs1 : legB l m = true
  rotate_left
  · have hn : legB l m = false := Bool.eq_false_iff.2 hs1
    clear hs1
    go_enter Try.func31, Try.ntmps31
    go_wp2_with (first | (go_at_call 17; refine (c_impl_IsInterval _ _ _ ).mono ?_; rintro e w' ⟨rfl, hb⟩; have hc := cellOf hb; have hf := frozOf hb; have hz := sizeOf hb; try simp at hz) | (go_at_call 64; refine (c_impl_isLeg _ _ _ ).mono ?_; rintro e w' ⟨rfl, hb⟩; have hc := cellOf hb; have hf := frozOf hb; have hz := sizeOf hb; try simp at hz) | (go_at_call 57; refine (c_impl_isMinute _ _ ).mono ?_; rintro e w' ⟨rfl, hb⟩; have hc := cellOf hb; have hf := frozOf hb; have hz := sizeOf hb; try simp at hz) | (go_at_call 59; refine (c_impl_asInterval _ _ _ ).mono ?_; rintro e w' ⟨rfl, hb⟩; have hc := cellOf hb; have hf := frozOf hb; have hz := sizeOf hb; try simp at hz))
    all_goals
      refine bodyPost_ret (v := .tuple #[.agg #[.int .i64 ((beforeI a b l m).1.1), .int .i64 ((beforeI a b l m).1.2)], .bool ((beforeI a b l m).2)]) ?_ rfl ⟨rfl, ?_⟩
      · first | (simp [results, Try.results31, go_sem, ↓IntWalk.iteOmega, beforeI, *]; done) | (simp [results, Try.results31, go_sem, ↓IntWalk.iteOmega, beforeI, *]; omega) | (simp [results, Try.results31, go_sem, ↓IntWalk.iteOmega, beforeI, *]; simp_all [beforeI]; done)
      · (repeat' (first | exact Below.refl _ _ | assumption | refine Below.setCell ?_ ?_ _ | refine Below.drew ?_ | refine Below.alloc ?_ ?_ _ | refine Below.trans ?_ (Below.mono (by assumption) ?_) | (simp; done) | (simp; omega) | omega))
  have hbd1 := legB_bd hs1
  have hv : max (a - m) 0 = max 0 (a - m) := by omega
  go_enter Try.func31, Try.ntmps31
  go_wp2_with (first | (go_at_call 17; refine (c_impl_IsInterval _ _ _ ).mono ?_; rintro e w' ⟨rfl, hb⟩; have hc := cellOf hb; have hf := frozOf hb; have hz := sizeOf hb; try simp at hz) | (go_at_call 64; refine (c_impl_isLeg _ _ _ ).mono ?_; rintro e w' ⟨rfl, hb⟩; have hc := cellOf hb; have hf := frozOf hb; have hz := sizeOf hb; try simp at hz) | (go_at_call 57; refine (c_impl_isMinute _ _ ).mono ?_; rintro e w' ⟨rfl, hb⟩; have hc := cellOf hb; have hf := frozOf hb; have hz := sizeOf hb; try simp at hz) | (go_at_call 59; refine (c_impl_asInterval _ _ _ ).mono ?_; rintro e w' ⟨rfl, hb⟩; have hc := cellOf hb; have hf := frozOf hb; have hz := sizeOf hb; try simp at hz))
  all_goals
    refine bodyPost_ret (v := .tuple #[.agg #[.int .i64 ((beforeI a b l m).1.1), .int .i64 ((beforeI a b l m).1.2)], .bool ((beforeI a b l m).2)]) ?_ rfl ⟨rfl, ?_⟩
    · first | (simp [results, Try.results31, go_sem, ↓IntWalk.iteOmega, beforeI, *]; done) | (simp [results, Try.results31, go_sem, ↓IntWalk.iteOmega, beforeI, *]; omega) | (simp [results, Try.results31, go_sem, ↓IntWalk.iteOmega, beforeI, *]; simp_all [beforeI]; done)
    · (repeat' (first | exact Below.refl _ _ | assumption | refine Below.setCell ?_ ?_ _ | refine Below.drew ?_ | refine Below.alloc ?_ ?_ _ | refine Below.trans ?_ (Below.mono (by assumption) ?_) | (simp; done) | (simp; omega) | omega))

set_option maxHeartbeats 2000000 in
theorem c_impl_CommonInterval (a b c d : Int) (w : World)  :
    Calls Try.prog 29 #[.agg #[.int .i64 (a), .int .i64 (b)], .agg #[.int .i64 (c), .int .i64 (d)]] w fun e w' => e = .returned (.tuple #[.agg #[.int .i64 ((commonI a b c d).1.1), .int .i64 ((commonI a b c d).1.2)], .bool ((commonI a b c d).2)]) ∧ Below w.heap.size w w' := by
  by_cases hs0 : goodI a b = true
  rotate_left
  · have hn : goodI a b = false := Bool.eq_false_iff.2 hs0
    clear hs0
    go_enter Try.func29, Try.ntmps29
    go_wp2_with (first | (go_at_call 17; refine (c_impl_IsInterval _ _ _ ).mono ?_; rintro e w' ⟨rfl, hb⟩; have hc := cellOf hb; have hf := frozOf hb; have hz := sizeOf hb; try simp at hz) | (go_at_call 64; refine (c_impl_isLeg _ _ _ ).mono ?_; rintro e w' ⟨rfl, hb⟩; have hc := cellOf hb; have hf := frozOf hb; have hz := sizeOf hb; try simp at hz) | (go_at_call 57; refine (c_impl_isMinute _ _ ).mono ?_; rintro e w' ⟨rfl, hb⟩; have hc := cellOf hb; have hf := frozOf hb; have hz := sizeOf hb; try simp at hz) | (go_at_call 59; refine (c_impl_asInterval _ _ _ ).mono ?_; rintro e w' ⟨rfl, hb⟩; have hc := cellOf hb; have hf := frozOf hb; have hz := sizeOf hb; try simp at hz))
    all_goals
      refine bodyPost_ret (v := .tuple #[.agg #[.int .i64 ((commonI a b c d).1.1), .int .i64 ((commonI a b c d).1.2)], .bool ((commonI a b c d).2)]) ?_ rfl ⟨rfl, ?_⟩
      · first | (simp [results, Try.results29, go_sem, ↓IntWalk.iteOmega, commonI, *]; done) | (simp [results, Try.results29, go_sem, ↓IntWalk.iteOmega, commonI, *]; omega) | (simp [results, Try.results29, go_sem, ↓IntWalk.iteOmega, commonI, *]; simp_all [commonI]; done)
      · (repeat' (first | exact Below.refl _ _ | assumption | refine Below.setCell ?_ ?_ _ | refine Below.drew ?_ | refine Below.alloc ?_ ?_ _ | refine Below.trans ?_ (Below.mono (by assumption) ?_) | (simp; done) | (simp; omega) | omega))
  have hbd0 := goodI_bd hs0
  by_cases hs1 : goodI c d = true
  rotate_left
  · have hn : goodI c d = false := Bool.eq_false_iff.2 hs1
    clear hs1
    go_enter Try.func29, Try.ntmps29
    go_wp2_with (first | (go_at_call 17; refine (c_impl_IsInterval _ _ _ ).mono ?_; rintro e w' ⟨rfl, hb⟩; have hc := cellOf hb; have hf := frozOf hb; have hz := sizeOf hb; try simp at hz) | (go_at_call 64; refine (c_impl_isLeg _ _ _ ).mono ?_; rintro e w' ⟨rfl, hb⟩; have hc := cellOf hb; have hf := frozOf hb; have hz := sizeOf hb; try simp at hz) | (go_at_call 57; refine (c_impl_isMinute _ _ ).mono ?_; rintro e w' ⟨rfl, hb⟩; have hc := cellOf hb; have hf := frozOf hb; have hz := sizeOf hb; try simp at hz) | (go_at_call 59; refine (c_impl_asInterval _ _ _ ).mono ?_; rintro e w' ⟨rfl, hb⟩; have hc := cellOf hb; have hf := frozOf hb; have hz := sizeOf hb; try simp at hz))
    all_goals
      refine bodyPost_ret (v := .tuple #[.agg #[.int .i64 ((commonI a b c d).1.1), .int .i64 ((commonI a b c d).1.2)], .bool ((commonI a b c d).2)]) ?_ rfl ⟨rfl, ?_⟩
      · first | (simp [results, Try.results29, go_sem, ↓IntWalk.iteOmega, commonI, *]; done) | (simp [results, Try.results29, go_sem, ↓IntWalk.iteOmega, commonI, *]; omega) | (simp [results, Try.results29, go_sem, ↓IntWalk.iteOmega, commonI, *]; simp_all [commonI]; done)
      · (repeat' (first | exact Below.refl _ _ | assumption | refine Below.setCell ?_ ?_ _ | refine Below.drew ?_ | refine Below.alloc ?_ ?_ _ | refine Below.trans ?_ (Below.mono (by assumption) ?_) | (simp; done) | (simp; omega) | omega))
  have hbd1 := goodI_bd hs1
  go_enter Try.func29, Try.ntmps29
  go_wp2_with (first | (go_at_call 17; refine (c_impl_IsInterval _ _ _ ).mono ?_; rintro e w' ⟨rfl, hb⟩; have hc := cellOf hb; have hf := frozOf hb; have hz := sizeOf hb; try simp at hz) | (go_at_call 64; refine (c_impl_isLeg _ _ _ ).mono ?_; rintro e w' ⟨rfl, hb⟩; have hc := cellOf hb; have hf := frozOf hb; have hz := sizeOf hb; try simp at hz) | (go_at_call 57; refine (c_impl_isMinute _ _ ).mono ?_; rintro e w' ⟨rfl, hb⟩; have hc := cellOf hb; have hf := frozOf hb; have hz := sizeOf hb; try simp at hz) | (go_at_call 59; refine (c_impl_asInterval _ _ _ ).mono ?_; rintro e w' ⟨rfl, hb⟩; have hc := cellOf hb; have hf := frozOf hb; have hz := sizeOf hb; try simp at hz))
  all_goals
    refine bodyPost_ret (v := .tuple #[.agg #[.int .i64 ((commonI a b c d).1.1), .int .i64 ((commonI a b c d).1.2)], .bool ((commonI a b c d).2)]) ?_ rfl ⟨rfl, ?_⟩
    · first | (simp [results, Try.results29, go_sem, ↓IntWalk.iteOmega, commonI, *]; done) | (simp [results, Try.results29, go_sem, ↓IntWalk.iteOmega, commonI, *]; omega) | (simp [results, Try.results29, go_sem, ↓IntWalk.iteOmega, commonI, *]; simp_all [commonI]; done)
    · (repeat' (first | exact Below.refl _ _ | assumption | refine Below.setCell ?_ ?_ _ | refine Below.drew ?_ | refine Below.alloc ?_ ?_ _ | refine Below.trans ?_ (Below.mono (by assumption) ?_) | (simp; done) | (simp; omega) | omega))

set_option maxHeartbeats 2000000 in
theorem c_impl_NotBefore (a b m : Int) (w : World)  :
    Calls Try.prog 21 #[.agg #[.int .i64 (a), .int .i64 (b)], .int .i64 (m)] w fun e w' => e = .returned (.tuple #[.agg #[.int .i64 ((notBefI a b m).1.1), .int .i64 ((notBefI a b m).1.2)], .bool ((notBefI a b m).2)]) ∧ Below w.heap.size w w' := by
  by_cases hs0 : goodI a b = true
  rotate_left
  · have hn : goodI a b = false := Bool.eq_false_iff.2 hs0
    clear hs0
    go_enter Try.func21, Try.ntmps21
    go_wp2_with (first | (go_at_call 17; refine (c_impl_IsInterval _ _ _ ).mono ?_; rintro e w' ⟨rfl, hb⟩; have hc := cellOf hb; have hf := frozOf hb; have hz := sizeOf hb; try simp at hz) | (go_at_call 64; refine (c_impl_isLeg _ _ _ ).mono ?_; rintro e w' ⟨rfl, hb⟩; have hc := cellOf hb; have hf := frozOf hb; have hz := sizeOf hb; try simp at hz) | (go_at_call 57; refine (c_impl_isMinute _ _ ).mono ?_; rintro e w' ⟨rfl, hb⟩; have hc := cellOf hb; have hf := frozOf hb; have hz := sizeOf hb; try simp at hz) | (go_at_call 59; refine (c_impl_asInterval _ _ _ ).mono ?_; rintro e w' ⟨rfl, hb⟩; have hc := cellOf hb; have hf := frozOf hb; have hz := sizeOf hb; try simp at hz))
    all_goals
      refine bodyPost_ret (v := .tuple #[.agg #[.int .i64 ((notBefI a b m).1.1), .int .i64 ((notBefI a b m).1.2)], .bool ((notBefI a b m).2)]) ?_ rfl ⟨rfl, ?_⟩
      · first | (simp [results, Try.results21, go_sem, ↓IntWalk.iteOmega, notBefI, *]; done) | (simp [results, Try.results21, go_sem, ↓IntWalk.iteOmega, notBefI, *]; omega) | (simp [results, Try.results21, go_sem, ↓IntWalk.iteOmega, notBefI, *]; simp_all [notBefI]; done)
      · (repeat' (first | exact Below.refl _ _ | assumption | refine Below.setCell ?_ ?_ _ | refine Below.drew ?_ | refine Below.alloc ?_ ?_ _ | refine Below.trans ?_ (Below.mono (by assumption) ?_) | (simp; done) | (simp; omega) | omega))
  have hbd0 := goodI_bd hs0
  by_cases hs1 : minB m = true
  rotate_left
  · have hn : minB m = false := Bool.eq_false_iff.2 hs1
    clear hs1
    go_enter Try.func21, Try.ntmps21
    go_wp2_with (first | (go_at_call 17; refine (c_impl_IsInterval _ _ _ ).mono ?_; rintro e w' ⟨rfl, hb⟩; have hc := cellOf hb; have hf := frozOf hb; have hz := sizeOf hb; try simp at hz) | (go_at_call 64; refine (c_impl_isLeg _ _ _ ).mono ?_; rintro e w' ⟨rfl, hb⟩; have hc := cellOf hb; have hf := frozOf hb; have hz := sizeOf hb; try simp at hz) | (go_at_call 57; refine (c_impl_isMinute _ _ ).mono ?_; rintro e w' ⟨rfl, hb⟩; have hc := cellOf hb; have hf := frozOf hb; have hz := sizeOf hb; try simp at hz) | (go_at_call 59; refine (c_impl_asInterval _ _ _ ).mono ?_; rintro e w' ⟨rfl, hb⟩; have hc := cellOf hb; have hf := frozOf hb; have hz := sizeOf hb; try simp at hz))
    all_goals
      refine bodyPost_ret (v := .tuple #[.agg #[.int .i64 ((notBefI a b m).1.1), .int .i64 ((notBefI a b m).1.2)], .bool ((notBefI a b m).2)]) ?_ rfl ⟨rfl, ?_⟩
      · first | (simp [results, Try.results21, go_sem, ↓IntWalk.iteOmega, notBefI, *]; done) | (simp [results, Try.results21, go_sem, ↓IntWalk.iteOmega, notBefI, *]; omega) | (simp [results, Try.results21, go_sem, ↓IntWalk.iteOmega, notBefI, *]; simp_all [notBefI]; done)
      · (repeat' (first | exact Below.refl _ _ | assumption | refine Below.setCell ?_ ?_ _ | refine Below.drew ?_ | refine Below.alloc ?_ ?_ _ | refine Below.trans ?_ (Below.mono (by assumption) ?_) | (simp; done) | (simp; omega) | omega))
  have hbd1 := minB_bd hs1
  have hv := notBefI_as hs0 hs1
  go_enter Try.func21, Try.ntmps21
  go_wp2_with (first | (go_at_call 17; refine (c_impl_IsInterval _ _ _ ).mono ?_; rintro e w' ⟨rfl, hb⟩; have hc := cellOf hb; have hf := frozOf hb; have hz := sizeOf hb; try simp at hz) | (go_at_call 64; refine (c_impl_isLeg _ _ _ ).mono ?_; rintro e w' ⟨rfl, hb⟩; have hc := cellOf hb; have hf := frozOf hb; have hz := sizeOf hb; try simp at hz) | (go_at_call 57; refine (c_impl_isMinute _ _ ).mono ?_; rintro e w' ⟨rfl, hb⟩; have hc := cellOf hb; have hf := frozOf hb; have hz := sizeOf hb; try simp at hz) | (go_at_call 59; refine (c_impl_asInterval _ _ _ ).mono ?_; rintro e w' ⟨rfl, hb⟩; have hc := cellOf hb; have hf := frozOf hb; have hz := sizeOf hb; try simp at hz))
  all_goals
    refine bodyPost_ret (v := .tuple #[.agg #[.int .i64 ((notBefI a b m).1.1), .int .i64 ((notBefI a b m).1.2)], .bool ((notBefI a b m).2)]) ?_ rfl ⟨rfl, ?_⟩
    · first | (simp [results, Try.results21, go_sem, ↓IntWalk.iteOmega, notBefI, *]; done) | (simp [results, Try.results21, go_sem, ↓IntWalk.iteOmega, notBefI, *]; omega) | (simp [results, Try.results21, go_sem, ↓IntWalk.iteOmega, notBefI, *]; simp_all [notBefI]; done)
    · (repeat' (first | exact Below.refl _ _ | assumption | refine Below.setCell ?_ ?_ _ | refine Below.drew ?_ | refine Below.alloc ?_ ?_ _ | refine Below.trans ?_ (Below.mono (by assumption) ?_) | (simp; done) | (simp; omega) | omega))

set_option maxHeartbeats 2000000 in
theorem c_impl_InTime (a b m : Int) (w : World)  :
    Calls Try.prog 19 #[.agg #[.int .i64 (a), .int .i64 (b)], .int .i64 (m)] w fun e w' => e = .returned (.tuple #[.int .i64 ((inTimeI a b m).1), .bool ((inTimeI a b m).2)]) ∧ Below w.heap.size w w' := by
  by_cases hs0 : goodI a b = true
  rotate_left
  · have hn : goodI a b = false := Bool.eq_false_iff.2 hs0
    clear hs0
    go_enter Try.func19, Try.ntmps19
    go_wp2_with (first | (go_at_call 17; refine (c_impl_IsInterval _ _ _ ).mono ?_; rintro e w' ⟨rfl, hb⟩; have hc := cellOf hb; have hf := frozOf hb; have hz := sizeOf hb; try simp at hz) | (go_at_call 64; refine (c_impl_isLeg _ _ _ ).mono ?_; rintro e w' ⟨rfl, hb⟩; have hc := cellOf hb; have hf := frozOf hb; have hz := sizeOf hb; try simp at hz) | (go_at_call 57; refine (c_impl_isMinute _ _ ).mono ?_; rintro e w' ⟨rfl, hb⟩; have hc := cellOf hb; have hf := frozOf hb; have hz := sizeOf hb; try simp at hz) | (go_at_call 59; refine (c_impl_asInterval _ _ _ ).mono ?_; rintro e w' ⟨rfl, hb⟩; have hc := cellOf hb; have hf := frozOf hb; have hz := sizeOf hb; try simp at hz))
    all_goals go_ret2
    all_goals
      refine ⟨?_, ?_⟩
      · first | rfl | omega | (simp [inTimeI, hn]; done) | (simp [inTimeI, hn]; omega) | (simp [inTimeI, hn]; (repeat' split) <;> (first | omega | (simp; done) | (simp; omega))) | (simp_all [inTimeI]; done) | (simp_all [inTimeI]; omega)
      · (repeat' (first | exact Below.refl _ _ | assumption | refine Below.setCell ?_ ?_ _ | refine Below.drew ?_ | refine Below.alloc ?_ ?_ _ | refine Below.trans ?_ (Below.mono (by assumption) ?_) | (simp; done) | (simp; omega) | omega))
  have hbd0 := goodI_bd hs0
  by_cases hs1 : minB m = true
  rotate_left
  · have hn : minB m = false := Bool.eq_false_iff.2 hs1
    clear hs1
    go_enter Try.func19, Try.ntmps19
    go_wp2_with (first | (go_at_call 17; refine (c_impl_IsInterval _ _ _ ).mono ?_; rintro e w' ⟨rfl, hb⟩; have hc := cellOf hb; have hf := frozOf hb; have hz := sizeOf hb; try simp at hz) | (go_at_call 64; refine (c_impl_isLeg _ _ _ ).mono ?_; rintro e w' ⟨rfl, hb⟩; have hc := cellOf hb; have hf := frozOf hb; have hz := sizeOf hb; try simp at hz) | (go_at_call 57; refine (c_impl_isMinute _ _ ).mono ?_; rintro e w' ⟨rfl, hb⟩; have hc := cellOf hb; have hf := frozOf hb; have hz := sizeOf hb; try simp at hz) | (go_at_call 59; refine (c_impl_asInterval _ _ _ ).mono ?_; rintro e w' ⟨rfl, hb⟩; have hc := cellOf hb; have hf := frozOf hb; have hz := sizeOf hb; try simp at hz))
    all_goals go_ret2
    all_goals
      refine ⟨?_, ?_⟩
      · first | rfl | omega | (simp [inTimeI, hs0, hn]; done) | (simp [inTimeI, hs0, hn]; omega) | (simp [inTimeI, hs0, hn]; (repeat' split) <;> (first | omega | (simp; done) | (simp; omega))) | (simp_all [inTimeI]; done) | (simp_all [inTimeI]; omega)
      · (repeat' (first | exact Below.refl _ _ | assumption | refine Below.setCell ?_ ?_ _ | refine Below.drew ?_ | refine Below.alloc ?_ ?_ _ | refine Below.trans ?_ (Below.mono (by assumption) ?_) | (simp; done) | (simp; omega) | omega))
  have hbd1 := minB_bd hs1
  go_enter Try.func19, Try.ntmps19
  go_wp2_with (first | (go_at_call 17; refine (c_impl_IsInterval _ _ _ ).mono ?_; rintro e w' ⟨rfl, hb⟩; have hc := cellOf hb; have hf := frozOf hb; have hz := sizeOf hb; try simp at hz) | (go_at_call 64; refine (c_impl_isLeg _ _ _ ).mono ?_; rintro e w' ⟨rfl, hb⟩; have hc := cellOf hb; have hf := frozOf hb; have hz := sizeOf hb; try simp at hz) | (go_at_call 57; refine (c_impl_isMinute _ _ ).mono ?_; rintro e w' ⟨rfl, hb⟩; have hc := cellOf hb; have hf := frozOf hb; have hz := sizeOf hb; try simp at hz) | (go_at_call 59; refine (c_impl_asInterval _ _ _ ).mono ?_; rintro e w' ⟨rfl, hb⟩; have hc := cellOf hb; have hf := frozOf hb; have hz := sizeOf hb; try simp at hz))
  all_goals go_ret2
  all_goals
    refine ⟨?_, ?_⟩
    · first | rfl | omega | (simp [inTimeI, hs0, hs1]; done) | (simp [inTimeI, hs0, hs1]; omega) | (simp [inTimeI, hs0, hs1]; (repeat' split) <;> (first | omega | (simp; done) | (simp; omega))) | (simp_all [inTimeI]; done) | (simp_all [inTimeI]; omega)
    · (repeat' (first | exact Below.refl _ _ | assumption | refine Below.setCell ?_ ?_ _ | refine Below.drew ?_ | refine Below.alloc ?_ ?_ _ | refine Below.trans ?_ (Below.mono (by assumption) ?_) | (simp; done) | (simp; omega) | omega))

end Go.Proofs.Ythlmeofjjmfpnaa
