import Derived.Test.YthlmeofjjmfpnaaT1
namespace Go.Proofs.Ythlmeofjjmfpnaa
set_option linter.unusedSimpArgs false
set_option linter.unusedVariables false
open Go.RowKit

set_option maxHeartbeats 2000000 in
theorem c_impl_CoverInterval (a b c d : Int) (w : World)  :
    Calls Try.prog 24 #[.agg #[.int .i64 (a), .int .i64 (b)], .agg #[.int .i64 (c), .int .i64 (d)]] w fun e w' => e = .returned (.tuple #[.agg #[.int .i64 ((coverI a b c d).1.1), .int .i64 ((coverI a b c d).1.2)], .bool ((coverI a b c d).2)]) ∧ Below w.heap.size w w' := by
  by_cases hs0 : goodI a b = true
  rotate_left
  · have hn : goodI a b = false := Bool.eq_false_iff.2 hs0
    clear hs0
    go_enter Try.func24, Try.ntmps24
    go_wp2_with (first | (go_at_call 17; refine (c_impl_IsInterval _ _ _ ).mono ?_; rintro e w' ⟨rfl, hb⟩; have hc := cellOf hb; have hf := frozOf hb; have hz := sizeOf hb; try simp at hz) | (go_at_call 59; refine (c_impl_asInterval _ _ _ ).mono ?_; rintro e w' ⟨rfl, hb⟩; have hc := cellOf hb; have hf := frozOf hb; have hz := sizeOf hb; try simp at hz))
    all_goals
      refine bodyPost_ret (v := .tuple #[.agg #[.int .i64 ((coverI a b c d).1.1), .int .i64 ((coverI a b c d).1.2)], .bool ((coverI a b c d).2)]) ?_ rfl ⟨rfl, ?_⟩
      · first | (simp [results, Try.results24, go_sem, ↓IntWalk.iteOmega, coverI, *]; done) | (simp [results, Try.results24, go_sem, ↓IntWalk.iteOmega, coverI, *]; omega) | (simp [results, Try.results24, go_sem, ↓IntWalk.iteOmega, coverI, *]; simp_all [coverI]; done)
      · (repeat' (first | exact Below.refl _ _ | assumption | refine Below.setCell ?_ ?_ _ | refine Below.drew ?_ | refine Below.alloc ?_ ?_ _ | refine Below.trans ?_ (Below.mono (by assumption) ?_) | (simp; done) | (simp; omega) | omega))
  have hbd0 := goodI_bd hs0
  by_cases hs1 : goodI c d = true
  rotate_left
  · have hn : goodI c d = false := Bool.eq_false_iff.2 hs1
    clear hs1
    go_enter Try.func24, Try.ntmps24
    go_wp2_with (first | (go_at_call 17; refine (c_impl_IsInterval _ _ _ ).mono ?_; rintro e w' ⟨rfl, hb⟩; have hc := cellOf hb; have hf := frozOf hb; have hz := sizeOf hb; try simp at hz) | (go_at_call 59; refine (c_impl_asInterval _ _ _ ).mono ?_; rintro e w' ⟨rfl, hb⟩; have hc := cellOf hb; have hf := frozOf hb; have hz := sizeOf hb; try simp at hz))
    all_goals
      refine bodyPost_ret (v := .tuple #[.agg #[.int .i64 ((coverI a b c d).1.1), .int .i64 ((coverI a b c d).1.2)], .bool ((coverI a b c d).2)]) ?_ rfl ⟨rfl, ?_⟩
      · first | (simp [results, Try.results24, go_sem, ↓IntWalk.iteOmega, coverI, *]; done) | (simp [results, Try.results24, go_sem, ↓IntWalk.iteOmega, coverI, *]; omega) | (simp [results, Try.results24, go_sem, ↓IntWalk.iteOmega, coverI, *]; simp_all [coverI]; done)
      · (repeat' (first | exact Below.refl _ _ | assumption | refine Below.setCell ?_ ?_ _ | refine Below.drew ?_ | refine Below.alloc ?_ ?_ _ | refine Below.trans ?_ (Below.mono (by assumption) ?_) | (simp; done) | (simp; omega) | omega))
  have hbd1 := goodI_bd hs1
  have hv := coverI_as hs0 hs1
  go_enter Try.func24, Try.ntmps24
  go_wp2_with (first | (go_at_call 17; refine (c_impl_IsInterval _ _ _ ).mono ?_; rintro e w' ⟨rfl, hb⟩; have hc := cellOf hb; have hf := frozOf hb; have hz := sizeOf hb; try simp at hz) | (go_at_call 59; refine (c_impl_asInterval _ _ _ ).mono ?_; rintro e w' ⟨rfl, hb⟩; have hc := cellOf hb; have hf := frozOf hb; have hz := sizeOf hb; try simp at hz))
  all_goals
    refine bodyPost_ret (v := .tuple #[.agg #[.int .i64 ((coverI a b c d).1.1), .int .i64 ((coverI a b c d).1.2)], .bool ((coverI a b c d).2)]) ?_ rfl ⟨rfl, ?_⟩
    · first | (simp [results, Try.results24, go_sem, ↓IntWalk.iteOmega, coverI, *]; done) | (simp [results, Try.results24, go_sem, ↓IntWalk.iteOmega, coverI, *]; omega) | (simp [results, Try.results24, go_sem, ↓IntWalk.iteOmega, coverI, *]; simp_all [coverI]; done)
    · (repeat' (first | exact Below.refl _ _ | assumption | refine Below.setCell ?_ ?_ _ | refine Below.drew ?_ | refine Below.alloc ?_ ?_ _ | refine Below.trans ?_ (Below.mono (by assumption) ?_) | (simp; done) | (simp; omega) | omega))

def FS23_3 (a b c d : Int) (w W0 : World) (iq : Nat) (v : Value) (w1 : World) : Prop := match iq with
  | 0 => v = .pointer (some ⟨w.heap.size, 0, none⟩)
  | 1 => v = .int .i64 (a)
  | 2 => v = .pointer (some ⟨w.heap.size + 1, 0, none⟩)
  | 3 => v = .int .i64 (c)
  | 4 => v = .int .i64 (min a (c))
  | 5 => v = .pointer (some ⟨w.heap.size, 1, none⟩)
  | 6 => v = .int .i64 (b)
  | 7 => v = .pointer (some ⟨w.heap.size + 1, 1, none⟩)
  | 8 => v = .int .i64 (d)
  | 9 => v = .int .i64 (max (b) (d))
  | 10 => v = .agg #[.int .i64 (min a (c)), .int .i64 (max (b) (d))]
  | _ => True

set_option maxHeartbeats 2000000 in
theorem c_spec_CoverInterval (a b c d : Int) (w : World)  :
    Calls Try.prog 23 #[.agg #[.int .i64 (a), .int .i64 (b)], .agg #[.int .i64 (c), .int .i64 (d)]] w fun e w' => e = .returned (.tuple #[.agg #[.int .i64 ((coverI a b c d).1.1), .int .i64 ((coverI a b c d).1.2)], .bool ((coverI a b c d).2)]) ∧ Below w.heap.size w w' := by
  by_cases hs0 : goodI a b = true
  rotate_left
  · have hn : goodI a b = false := Bool.eq_false_iff.2 hs0
    clear hs0
    go_enter Try.func23, Try.ntmps23
    go_wp2_with (first | (go_at_call 55; refine (c_spec_l13Good _ _ _ ).mono ?_; rintro e w' ⟨rfl, hb⟩; have hc := cellOf hb; have hf := frozOf hb; have hz := sizeOf hb; try simp at hz) | (go_at_call 58; refine (c_spec_l1Most _ _ _ ).mono ?_; rintro e w' ⟨rfl, hb⟩; have hc := cellOf hb; have hf := frozOf hb; have hz := sizeOf hb; try simp at hz) | (go_at_call 60; refine (c_spec_l1Least _ _ _ ).mono ?_; rintro e w' ⟨rfl, hb⟩; have hc := cellOf hb; have hf := frozOf hb; have hz := sizeOf hb; try simp at hz))
    all_goals
      refine bodyPost_ret (v := .tuple #[.agg #[.int .i64 ((coverI a b c d).1.1), .int .i64 ((coverI a b c d).1.2)], .bool ((coverI a b c d).2)]) ?_ rfl ⟨rfl, ?_⟩
      · first | (simp [results, Try.results23, go_sem, ↓IntWalk.iteOmega, coverI, *]; done) | (simp [results, Try.results23, go_sem, ↓IntWalk.iteOmega, coverI, *]; omega) | (simp [results, Try.results23, go_sem, ↓IntWalk.iteOmega, coverI, *]; simp_all [coverI]; done)
      · (repeat' (first | exact Below.refl _ _ | assumption | refine Below.setCell ?_ ?_ _ | refine Below.drew ?_ | refine Below.alloc ?_ ?_ _ | refine Below.trans ?_ (Below.mono (by assumption) ?_) | (simp; done) | (simp; omega) | omega))
  have hbd0 := goodI_bd hs0
  by_cases hs1 : goodI c d = true
  rotate_left
  · have hn : goodI c d = false := Bool.eq_false_iff.2 hs1
    clear hs1
    go_enter Try.func23, Try.ntmps23
    go_wp2_with (first | (go_at_call 55; refine (c_spec_l13Good _ _ _ ).mono ?_; rintro e w' ⟨rfl, hb⟩; have hc := cellOf hb; have hf := frozOf hb; have hz := sizeOf hb; try simp at hz) | (go_at_call 58; refine (c_spec_l1Most _ _ _ ).mono ?_; rintro e w' ⟨rfl, hb⟩; have hc := cellOf hb; have hf := frozOf hb; have hz := sizeOf hb; try simp at hz) | (go_at_call 60; refine (c_spec_l1Least _ _ _ ).mono ?_; rintro e w' ⟨rfl, hb⟩; have hc := cellOf hb; have hf := frozOf hb; have hz := sizeOf hb; try simp at hz))
    all_goals
      refine bodyPost_ret (v := .tuple #[.agg #[.int .i64 ((coverI a b c d).1.1), .int .i64 ((coverI a b c d).1.2)], .bool ((coverI a b c d).2)]) ?_ rfl ⟨rfl, ?_⟩
      · first | (simp [results, Try.results23, go_sem, ↓IntWalk.iteOmega, coverI, *]; done) | (simp [results, Try.results23, go_sem, ↓IntWalk.iteOmega, coverI, *]; omega) | (simp [results, Try.results23, go_sem, ↓IntWalk.iteOmega, coverI, *]; simp_all [coverI]; done)
      · (repeat' (first | exact Below.refl _ _ | assumption | refine Below.setCell ?_ ?_ _ | refine Below.drew ?_ | refine Below.alloc ?_ ?_ _ | refine Below.trans ?_ (Below.mono (by assumption) ?_) | (simp; done) | (simp; omega) | omega))
  have hbd1 := goodI_bd hs1
  go_enter Try.func23, Try.ntmps23
  go_wp2_with (first | (go_at_call 55; refine (c_spec_l13Good _ _ _ ).mono ?_; rintro e w' ⟨rfl, hb⟩; have hc := cellOf hb; have hf := frozOf hb; have hz := sizeOf hb; try simp at hz) | (go_at_call 58; refine (c_spec_l1Most _ _ _ ).mono ?_; rintro e w' ⟨rfl, hb⟩; have hc := cellOf hb; have hf := frozOf hb; have hz := sizeOf hb; try simp at hz) | (go_at_call 60; refine (c_spec_l1Least _ _ _ ).mono ?_; rintro e w' ⟨rfl, hb⟩; have hc := cellOf hb; have hf := frozOf hb; have hz := sizeOf hb; try simp at hz))
  refine wp_region_w (n := 11) [] [] (FS23_3 a b c d w) rfl (by kernel_rfl) (fun _ _ d _ _ h => by cases d <;> exact h) ?_ ?_ ?_ ?_ ?_ ?_
  · intro iq
    match iq with
    | 0 | 1 | 2 | 3 | 4 | 5 | 6 | 7 | 8 | 9 | 10 => exact Stable.const _
    | n + 11 => exact Stable.const _
  · intro iq hi
    exact absurd hi (by simp)
  · intro iq hi
    exact absurd hi (by simp)
  · intro iq o hi hl ho vals w1 hb1 hf
    exact absurd hl (by simp)
  · intro iq o hi hl ho vals w1 hb1 hf
    match iq, hi with
    | 0, _ =>
      injection ho with ho
      subst ho
      clear hl
      simp only [fillA, List.take, List.drop, put_none, Act.put, List.setIfInBounds_toArray, List.set_cons_zero, List.set_cons_succ, Nat.reduceAdd]
      clear hf
      go_wp2_with (fail)
      exact RQ.mk rfl ⟨(by first | rfl | (simp [FS23_3]; done) | (simp [FS23_3, *]; done) | (simp [FS23_3, gotV]; done) | (simp [FS23_3, gotV]; omega)), fun h => absurd h (by decide)⟩ (Below.refl _ _)
    | 1, _ =>
      injection ho with ho
      subst ho
      clear hl
      simp only [fillA, List.take, List.drop, put_none, Act.put, List.setIfInBounds_toArray, List.set_cons_zero, List.set_cons_succ, Nat.reduceAdd]
      have f0 := hf 0 (by decide) (by kernel_rfl)
      generalize vals 0 = v0 at *
      subst f0
      clear hf
      have hc1 := cellOf hb1
      have hf1 := frozOf hb1
      have hz1 := sizeOf hb1
      try simp at hz1
      go_wp2_with (fail)
      exact RQ.mk rfl ⟨(by first | rfl | (simp [FS23_3]; done) | (simp [FS23_3, *]; done) | (simp [FS23_3, gotV]; done) | (simp [FS23_3, gotV]; omega)), fun h => absurd h (by decide)⟩ (Below.refl _ _)
    | 2, _ =>
      injection ho with ho
      subst ho
      clear hl
      simp only [fillA, List.take, List.drop, put_none, Act.put, List.setIfInBounds_toArray, List.set_cons_zero, List.set_cons_succ, Nat.reduceAdd]
      clear hf
      go_wp2_with (fail)
      exact RQ.mk rfl ⟨(by first | rfl | (simp [FS23_3]; done) | (simp [FS23_3, *]; done) | (simp [FS23_3, gotV]; done) | (simp [FS23_3, gotV]; omega)), fun h => absurd h (by decide)⟩ (Below.refl _ _)
    | 3, _ =>
      injection ho with ho
      subst ho
      clear hl
      simp only [fillA, List.take, List.drop, put_none, Act.put, List.setIfInBounds_toArray, List.set_cons_zero, List.set_cons_succ, Nat.reduceAdd]
      have f2 := hf 2 (by decide) (by kernel_rfl)
      generalize vals 2 = v2 at *
      subst f2
      clear hf
      have hc1 := cellOf hb1
      have hf1 := frozOf hb1
      have hz1 := sizeOf hb1
      try simp at hz1
      go_wp2_with (fail)
      exact RQ.mk rfl ⟨(by first | rfl | (simp [FS23_3]; done) | (simp [FS23_3, *]; done) | (simp [FS23_3, gotV]; done) | (simp [FS23_3, gotV]; omega)), fun h => absurd h (by decide)⟩ (Below.refl _ _)
    | 4, _ =>
      injection ho with ho
      subst ho
      clear hl
      simp only [fillA, List.take, List.drop, put_none, Act.put, List.setIfInBounds_toArray, List.set_cons_zero, List.set_cons_succ, Nat.reduceAdd]
      have f1 := hf 1 (by decide) (by kernel_rfl)
      generalize vals 1 = v1 at *
      subst f1
      have f3 := hf 3 (by decide) (by kernel_rfl)
      generalize vals 3 = v3 at *
      subst f3
      clear hf
      have hc1 := cellOf hb1
      have hf1 := frozOf hb1
      have hz1 := sizeOf hb1
      try simp at hz1
      go_wp2_with (first | (go_at_call 60; refine (c_spec_l1Least _ _ _ ).mono ?_; rintro e w' ⟨rfl, hb⟩; have hc := cellOf hb; have hf := frozOf hb; have hz := sizeOf hb; try simp at hz))
      exact RQ.mk rfl ⟨(by first | rfl | (simp [FS23_3]; done) | (simp [FS23_3, *]; done) | (simp [FS23_3, gotV]; done) | (simp [FS23_3, gotV]; omega)), fun h => absurd h (by decide)⟩ (by (repeat' (first | exact Below.refl _ _ | assumption | refine Below.setCell ?_ ?_ _ | refine Below.drew ?_ | refine Below.alloc ?_ ?_ _ | refine Below.trans ?_ (Below.mono (by assumption) ?_) | (simp; done) | (simp; omega) | omega)))
    | 5, _ =>
      injection ho with ho
      subst ho
      clear hl
      simp only [fillA, List.take, List.drop, put_none, Act.put, List.setIfInBounds_toArray, List.set_cons_zero, List.set_cons_succ, Nat.reduceAdd]
      clear hf
      go_wp2_with (fail)
      exact RQ.mk rfl ⟨(by first | rfl | (simp [FS23_3]; done) | (simp [FS23_3, *]; done) | (simp [FS23_3, gotV]; done) | (simp [FS23_3, gotV]; omega)), fun h => absurd h (by decide)⟩ (Below.refl _ _)
    | 6, _ =>
      injection ho with ho
      subst ho
      clear hl
      simp only [fillA, List.take, List.drop, put_none, Act.put, List.setIfInBounds_toArray, List.set_cons_zero, List.set_cons_succ, Nat.reduceAdd]
      have f5 := hf 5 (by decide) (by kernel_rfl)
      generalize vals 5 = v5 at *
      subst f5
      clear hf
      have hc1 := cellOf hb1
      have hf1 := frozOf hb1
      have hz1 := sizeOf hb1
      try simp at hz1
      go_wp2_with (fail)
      exact RQ.mk rfl ⟨(by first | rfl | (simp [FS23_3]; done) | (simp [FS23_3, *]; done) | (simp [FS23_3, gotV]; done) | (simp [FS23_3, gotV]; omega)), fun h => absurd h (by decide)⟩ (Below.refl _ _)
    | 7, _ =>
      injection ho with ho
      subst ho
      clear hl
      simp only [fillA, List.take, List.drop, put_none, Act.put, List.setIfInBounds_toArray, List.set_cons_zero, List.set_cons_succ, Nat.reduceAdd]
      clear hf
      go_wp2_with (fail)
      exact RQ.mk rfl ⟨(by first | rfl | (simp [FS23_3]; done) | (simp [FS23_3, *]; done) | (simp [FS23_3, gotV]; done) | (simp [FS23_3, gotV]; omega)), fun h => absurd h (by decide)⟩ (Below.refl _ _)
    | 8, _ =>
      injection ho with ho
      subst ho
      clear hl
      simp only [fillA, List.take, List.drop, put_none, Act.put, List.setIfInBounds_toArray, List.set_cons_zero, List.set_cons_succ, Nat.reduceAdd]
      have f7 := hf 7 (by decide) (by kernel_rfl)
      generalize vals 7 = v7 at *
      subst f7
      clear hf
      have hc1 := cellOf hb1
      have hf1 := frozOf hb1
      have hz1 := sizeOf hb1
      try simp at hz1
      go_wp2_with (fail)
      exact RQ.mk rfl ⟨(by first | rfl | (simp [FS23_3]; done) | (simp [FS23_3, *]; done) | (simp [FS23_3, gotV]; done) | (simp [FS23_3, gotV]; omega)), fun h => absurd h (by decide)⟩ (Below.refl _ _)
    | 9, _ =>
      injection ho with ho
      subst ho
      clear hl
      simp only [fillA, List.take, List.drop, put_none, Act.put, List.setIfInBounds_toArray, List.set_cons_zero, List.set_cons_succ, Nat.reduceAdd]
      have f6 := hf 6 (by decide) (by kernel_rfl)
      generalize vals 6 = v6 at *
      subst f6
      have f8 := hf 8 (by decide) (by kernel_rfl)
      generalize vals 8 = v8 at *
      subst f8
      have f4 := hf 4 (by decide) (by kernel_rfl)
      generalize vals 4 = v4 at *
      subst f4
      clear hf
      have hc1 := cellOf hb1
      have hf1 := frozOf hb1
      have hz1 := sizeOf hb1
      try simp at hz1
      go_wp2_with (first | (go_at_call 58; refine (c_spec_l1Most _ _ _ ).mono ?_; rintro e w' ⟨rfl, hb⟩; have hc := cellOf hb; have hf := frozOf hb; have hz := sizeOf hb; try simp at hz))
      exact RQ.mk rfl ⟨(by first | rfl | (simp [FS23_3]; done) | (simp [FS23_3, *]; done) | (simp [FS23_3, gotV]; done) | (simp [FS23_3, gotV]; omega)), fun h => absurd h (by decide)⟩ (by (repeat' (first | exact Below.refl _ _ | assumption | refine Below.setCell ?_ ?_ _ | refine Below.drew ?_ | refine Below.alloc ?_ ?_ _ | refine Below.trans ?_ (Below.mono (by assumption) ?_) | (simp; done) | (simp; omega) | omega)))
    | 10, _ =>
      injection ho with ho
      subst ho
      clear hl
      simp only [fillA, List.take, List.drop, put_none, Act.put, List.setIfInBounds_toArray, List.set_cons_zero, List.set_cons_succ, Nat.reduceAdd]
      have f4 := hf 4 (by decide) (by kernel_rfl)
      generalize vals 4 = v4 at *
      subst f4
      have f9 := hf 9 (by decide) (by kernel_rfl)
      generalize vals 9 = v9 at *
      subst f9
      clear hf
      go_wp2_with (fail)
      exact RQ.mk rfl ⟨(by first | rfl | (simp [FS23_3]; done) | (simp [FS23_3, *]; done) | (simp [FS23_3, gotV]; done) | (simp [FS23_3, gotV]; omega)), fun h => absurd h (by decide)⟩ (Below.refl _ _)
  · intro vals w1 hb1 hf hd
    simp only [fillA, List.take, List.drop, put_none, Act.put, List.setIfInBounds_toArray, List.set_cons_zero, List.set_cons_succ, Nat.reduceAdd]
    clear hd
    have f0 := hf 0 (by decide)
    generalize vals 0 = v0 at *
    subst f0
    have f1 := hf 1 (by decide)
    generalize vals 1 = v1 at *
    subst f1
    have f2 := hf 2 (by decide)
    generalize vals 2 = v2 at *
    subst f2
    have f3 := hf 3 (by decide)
    generalize vals 3 = v3 at *
    subst f3
    have f4 := hf 4 (by decide)
    generalize vals 4 = v4 at *
    subst f4
    have f5 := hf 5 (by decide)
    generalize vals 5 = v5 at *
    subst f5
    have f6 := hf 6 (by decide)
    generalize vals 6 = v6 at *
    subst f6
    have f7 := hf 7 (by decide)
    generalize vals 7 = v7 at *
    subst f7
    have f8 := hf 8 (by decide)
    generalize vals 8 = v8 at *
    subst f8
    have f9 := hf 9 (by decide)
    generalize vals 9 = v9 at *
    subst f9
    have f10 := hf 10 (by decide)
    generalize vals 10 = v10 at *
    subst f10
    clear hf
    have hc1 := cellOf hb1
    have hf1 := frozOf hb1
    have hz1 := sizeOf hb1
    try simp at hz1
    go_wp2_with (first | (go_at_call 55; refine (c_spec_l13Good _ _ _ ).mono ?_; rintro e w' ⟨rfl, hb⟩; have hc := cellOf hb; have hf := frozOf hb; have hz := sizeOf hb; try simp at hz) | (go_at_call 58; refine (c_spec_l1Most _ _ _ ).mono ?_; rintro e w' ⟨rfl, hb⟩; have hc := cellOf hb; have hf := frozOf hb; have hz := sizeOf hb; try simp at hz) | (go_at_call 60; refine (c_spec_l1Least _ _ _ ).mono ?_; rintro e w' ⟨rfl, hb⟩; have hc := cellOf hb; have hf := frozOf hb; have hz := sizeOf hb; try simp at hz))
    all_goals
      refine bodyPost_ret (v := .tuple #[.agg #[.int .i64 ((coverI a b c d).1.1), .int .i64 ((coverI a b c d).1.2)], .bool ((coverI a b c d).2)]) ?_ rfl ⟨rfl, ?_⟩
      · first | (simp [results, Try.results23, go_sem, ↓IntWalk.iteOmega, coverI, *]; done) | (simp [results, Try.results23, go_sem, ↓IntWalk.iteOmega, coverI, *]; omega) | (simp [results, Try.results23, go_sem, ↓IntWalk.iteOmega, coverI, *]; simp_all [coverI]; done)
      · (repeat' (first | exact Below.refl _ _ | assumption | refine Below.setCell ?_ ?_ _ | refine Below.drew ?_ | refine Below.alloc ?_ ?_ _ | refine Below.trans ?_ (Below.mono (by assumption) ?_) | (simp; done) | (simp; omega) | omega))

end Go.Proofs.Ythlmeofjjmfpnaa
