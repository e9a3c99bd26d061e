import Derived.Test.YtgjbdcalmodhpaaP1
namespace Go.Proofs.Ytgjbdcalmodhpaa
set_option linter.unusedSimpArgs false
set_option linter.unusedVariables false
open Go.RowKit

set_option maxHeartbeats 2000000 in
theorem c_impl_doClash (i : Int) (d : Bool) (a b : Int) (i' : Int) (d' : Bool) (a' b' : Int) (g : Int) (w : World) (hb_a : -99999 ≤ a ∧ a ≤ 99999) (hb_b : -99999 ≤ b ∧ b ≤ 99999) (hb_aq : -99999 ≤ a' ∧ a' ≤ 99999) (hb_bq : -99999 ≤ b' ∧ b' ≤ 99999) :
    Calls Try.prog 57 #[.agg #[.int .i64 (i), .bool (d), .int .i64 (a), .int .i64 (b)], .agg #[.int .i64 (i'), .bool (d'), .int .i64 (a'), .int .i64 (b')], .int .i64 (g)] w fun e w' => e = .returned (.bool (clashB i d a b i' d' a' b' g)) ∧ Below w.heap.size w w' := by
  go_enter Try.func57, Try.ntmps57
  go_wp2
  all_goals go_ret
  all_goals
    refine ⟨ret_bool ?_, ?_⟩
    · first | rfl | omega | (simp [clashB]; done) | (simp [clashB]; omega) | (simp [clashB]; (repeat' split) <;> (first | omega | (simp; done) | (simp; omega))) | (simp_all [clashB]; done) | (simp_all [clashB]; omega)
    · (repeat' (first | exact Below.refl _ _ | assumption | refine Below.setCell ?_ ?_ _ | refine Below.drew ?_ | refine Below.alloc ?_ ?_ _ | refine Below.trans ?_ (Below.mono (by assumption) ?_) | (simp; done) | (simp; omega) | omega))

set_option maxHeartbeats 2000000 in
theorem c_spec_l14Clash_tt (i a b i' a' b' g : Int) (w : World) (hb_a : -99999 ≤ a ∧ a ≤ 99999) (hb_b : -99999 ≤ b ∧ b ≤ 99999) (hb_aq : -99999 ≤ a' ∧ a' ≤ 99999) (hb_bq : -99999 ≤ b' ∧ b' ≤ 99999) :
    Calls Try.prog 54 #[.agg #[.int .i64 (i), .bool (true), .int .i64 (a), .int .i64 (b)], .agg #[.int .i64 (i'), .bool (true), .int .i64 (a'), .int .i64 (b')], .int .i64 (g)] w fun e w' => e = .returned (.bool (clashB i true a b i' true a' b' g)) ∧ Below w.heap.size w w' := by
  go_enter Try.func54, Try.ntmps54
  go_wp2_with (first | (go_at_call 84; refine (c_spec_l1Most _ _ _ ).mono ?_; rintro e w' ⟨rfl, hb⟩; have hc := cellOf hb; have hf := frozOf hb; have hz := sizeOf hb; try simp at hz) | (go_at_call 85; refine (c_spec_l1Least _ _ _ ).mono ?_; rintro e w' ⟨rfl, hb⟩; have hc := cellOf hb; have hf := frozOf hb; have hz := sizeOf hb; try simp at hz))
  all_goals go_ret
  all_goals
    refine ⟨ret_bool ?_, ?_⟩
    · first | rfl | omega | (simp [clashB]; done) | (simp [clashB]; omega) | (simp [clashB]; (repeat' split) <;> (first | omega | (simp; done) | (simp; omega))) | (simp_all [clashB]; done) | (simp_all [clashB]; omega)
    · (repeat' (first | exact Below.refl _ _ | assumption | refine Below.setCell ?_ ?_ _ | refine Below.drew ?_ | refine Below.alloc ?_ ?_ _ | refine Below.trans ?_ (Below.mono (by assumption) ?_) | (simp; done) | (simp; omega) | omega))

def FS54_2 (i a b i' a' b' g : Int) (w W0 : World) (iq : Nat) (v : Value) (w1 : World) : Prop := match iq with
  | 0 => v = .pointer (some ⟨w.heap.size, 2, none⟩)
  | 1 => v = .int .i64 (a)
  | 2 => v = .pointer (some ⟨w.heap.size + 1, 2, none⟩)
  | 3 => v = .int .i64 (a')
  | 4 => v = .int .i64 (max a (a'))
  | 5 => v = .pointer (some ⟨w.heap.size, 3, none⟩)
  | 6 => v = .int .i64 (b)
  | 7 => v = .pointer (some ⟨w.heap.size + 1, 3, none⟩)
  | 8 => v = .int .i64 (b')
  | 9 => v = .int .i64 (min (b) (b'))
  | 10 => v = .bool (decide ((max a (a')) < (min (b) (b'))))
  | _ => True

set_option maxHeartbeats 2000000 in
theorem c_spec_l14Clash_tf (i a b i' a' b' g : Int) (w : World) (hb_a : -99999 ≤ a ∧ a ≤ 99999) (hb_b : -99999 ≤ b ∧ b ≤ 99999) (hb_aq : -99999 ≤ a' ∧ a' ≤ 99999) (hb_bq : -99999 ≤ b' ∧ b' ≤ 99999) :
    Calls Try.prog 54 #[.agg #[.int .i64 (i), .bool (true), .int .i64 (a), .int .i64 (b)], .agg #[.int .i64 (i'), .bool (false), .int .i64 (a'), .int .i64 (b')], .int .i64 (g)] w fun e w' => e = .returned (.bool (clashB i true a b i' false a' b' g)) ∧ Below w.heap.size w w' := by
  go_enter Try.func54, Try.ntmps54
  go_wp2_with (first | (go_at_call 84; refine (c_spec_l1Most _ _ _ ).mono ?_; rintro e w' ⟨rfl, hb⟩; have hc := cellOf hb; have hf := frozOf hb; have hz := sizeOf hb; try simp at hz) | (go_at_call 85; refine (c_spec_l1Least _ _ _ ).mono ?_; rintro e w' ⟨rfl, hb⟩; have hc := cellOf hb; have hf := frozOf hb; have hz := sizeOf hb; try simp at hz))
  refine wp_region_w (n := 11) [] [] (FS54_2 i a b i' a' b' g w) rfl (by kernel_rfl) (fun _ _ d _ _ h => by cases d <;> exact h) ?_ ?_ ?_ ?_ ?_ ?_
  · intro iq
    match iq with
    | 0 | 1 | 2 | 3 | 4 | 5 | 6 | 7 | 8 | 9 | 10 => exact Stable.const _
    | n + 11 => exact Stable.const _
  · intro iq hi
    exact absurd hi (by simp)
  · intro iq hi
    exact absurd hi (by simp)
  · intro iq o hi hl ho vals w1 hb1 hf
    exact absurd hl (by simp)
  · intro iq o hi hl ho vals w1 hb1 hf
    match iq, hi with
    | 0, _ =>
      injection ho with ho
      subst ho
      clear hl
      simp only [fillA, List.take, List.drop, put_none, Act.put, List.setIfInBounds_toArray, List.set_cons_zero, List.set_cons_succ, Nat.reduceAdd]
      clear hf
      go_wp2_with (fail)
      exact RQ.mk rfl ⟨(by first | rfl | (simp [FS54_2]; done) | (simp [FS54_2, *]; done) | (simp [FS54_2, gotV]; done) | (simp [FS54_2, gotV]; omega)), fun h => absurd h (by decide)⟩ (Below.refl _ _)
    | 1, _ =>
      injection ho with ho
      subst ho
      clear hl
      simp only [fillA, List.take, List.drop, put_none, Act.put, List.setIfInBounds_toArray, List.set_cons_zero, List.set_cons_succ, Nat.reduceAdd]
      have f0 := hf 0 (by decide) (by kernel_rfl)
      generalize vals 0 = v0 at *
      subst f0
      clear hf
      have hc1 := cellOf hb1
      have hf1 := frozOf hb1
      have hz1 := sizeOf hb1
      try simp at hz1
      go_wp2_with (fail)
      exact RQ.mk rfl ⟨(by first | rfl | (simp [FS54_2]; done) | (simp [FS54_2, *]; done) | (simp [FS54_2, gotV]; done) | (simp [FS54_2, gotV]; omega)), fun h => absurd h (by decide)⟩ (Below.refl _ _)
    | 2, _ =>
      injection ho with ho
      subst ho
      clear hl
      simp only [fillA, List.take, List.drop, put_none, Act.put, List.setIfInBounds_toArray, List.set_cons_zero, List.set_cons_succ, Nat.reduceAdd]
      clear hf
      go_wp2_with (fail)
      exact RQ.mk rfl ⟨(by first | rfl | (simp [FS54_2]; done) | (simp [FS54_2, *]; done) | (simp [FS54_2, gotV]; done) | (simp [FS54_2, gotV]; omega)), fun h => absurd h (by decide)⟩ (Below.refl _ _)
    | 3, _ =>
      injection ho with ho
      subst ho
      clear hl
      simp only [fillA, List.take, List.drop, put_none, Act.put, List.setIfInBounds_toArray, List.set_cons_zero, List.set_cons_succ, Nat.reduceAdd]
      have f2 := hf 2 (by decide) (by kernel_rfl)
      generalize vals 2 = v2 at *
      subst f2
      clear hf
      have hc1 := cellOf hb1
      have hf1 := frozOf hb1
      have hz1 := sizeOf hb1
      try simp at hz1
      go_wp2_with (fail)
      exact RQ.mk rfl ⟨(by first | rfl | (simp [FS54_2]; done) | (simp [FS54_2, *]; done) | (simp [FS54_2, gotV]; done) | (simp [FS54_2, gotV]; omega)), fun h => absurd h (by decide)⟩ (Below.refl _ _)
    | 4, _ =>
      injection ho with ho
      subst ho
      clear hl
      simp only [fillA, List.take, List.drop, put_none, Act.put, List.setIfInBounds_toArray, List.set_cons_zero, List.set_cons_succ, Nat.reduceAdd]
      have f1 := hf 1 (by decide) (by kernel_rfl)
      generalize vals 1 = v1 at *
      subst f1
      have f3 := hf 3 (by decide) (by kernel_rfl)
      generalize vals 3 = v3 at *
      subst f3
      clear hf
      have hc1 := cellOf hb1
      have hf1 := frozOf hb1
      have hz1 := sizeOf hb1
      try simp at hz1
      go_wp2_with (first | (go_at_call 84; refine (c_spec_l1Most _ _ _ ).mono ?_; rintro e w' ⟨rfl, hb⟩; have hc := cellOf hb; have hf := frozOf hb; have hz := sizeOf hb; try simp at hz))
      exact RQ.mk rfl ⟨(by first | rfl | (simp [FS54_2]; done) | (simp [FS54_2, *]; done) | (simp [FS54_2, gotV]; done) | (simp [FS54_2, gotV]; omega)), fun h => absurd h (by decide)⟩ (by (repeat' (first | exact Below.refl _ _ | assumption | refine Below.setCell ?_ ?_ _ | refine Below.drew ?_ | refine Below.alloc ?_ ?_ _ | refine Below.trans ?_ (Below.mono (by assumption) ?_) | (simp; done) | (simp; omega) | omega)))
    | 5, _ =>
      injection ho with ho
      subst ho
      clear hl
      simp only [fillA, List.take, List.drop, put_none, Act.put, List.setIfInBounds_toArray, List.set_cons_zero, List.set_cons_succ, Nat.reduceAdd]
      clear hf
      go_wp2_with (fail)
      exact RQ.mk rfl ⟨(by first | rfl | (simp [FS54_2]; done) | (simp [FS54_2, *]; done) | (simp [FS54_2, gotV]; done) | (simp [FS54_2, gotV]; omega)), fun h => absurd h (by decide)⟩ (Below.refl _ _)
    | 6, _ =>
      injection ho with ho
      subst ho
      clear hl
      simp only [fillA, List.take, List.drop, put_none, Act.put, List.setIfInBounds_toArray, List.set_cons_zero, List.set_cons_succ, Nat.reduceAdd]
      have f5 := hf 5 (by decide) (by kernel_rfl)
      generalize vals 5 = v5 at *
      subst f5
      clear hf
      have hc1 := cellOf hb1
      have hf1 := frozOf hb1
      have hz1 := sizeOf hb1
      try simp at hz1
      go_wp2_with (fail)
      exact RQ.mk rfl ⟨(by first | rfl | (simp [FS54_2]; done) | (simp [FS54_2, *]; done) | (simp [FS54_2, gotV]; done) | (simp [FS54_2, gotV]; omega)), fun h => absurd h (by decide)⟩ (Below.refl _ _)
    | 7, _ =>
      injection ho with ho
      subst ho
      clear hl
      simp only [fillA, List.take, List.drop, put_none, Act.put, List.setIfInBounds_toArray, List.set_cons_zero, List.set_cons_succ, Nat.reduceAdd]
      clear hf
      go_wp2_with (fail)
      exact RQ.mk rfl ⟨(by first | rfl | (simp [FS54_2]; done) | (simp [FS54_2, *]; done) | (simp [FS54_2, gotV]; done) | (simp [FS54_2, gotV]; omega)), fun h => absurd h (by decide)⟩ (Below.refl _ _)
    | 8, _ =>
      injection ho with ho
      subst ho
      clear hl
      simp only [fillA, List.take, List.drop, put_none, Act.put, List.setIfInBounds_toArray, List.set_cons_zero, List.set_cons_succ, Nat.reduceAdd]
      have f7 := hf 7 (by decide) (by kernel_rfl)
      generalize vals 7 = v7 at *
      subst f7
      clear hf
      have hc1 := cellOf hb1
      have hf1 := frozOf hb1
      have hz1 := sizeOf hb1
      try simp at hz1
      go_wp2_with (fail)
      exact RQ.mk rfl ⟨(by first | rfl | (simp [FS54_2]; done) | (simp [FS54_2, *]; done) | (simp [FS54_2, gotV]; done) | (simp [FS54_2, gotV]; omega)), fun h => absurd h (by decide)⟩ (Below.refl _ _)
    | 9, _ =>
      injection ho with ho
      subst ho
      clear hl
      simp only [fillA, List.take, List.drop, put_none, Act.put, List.setIfInBounds_toArray, List.set_cons_zero, List.set_cons_succ, Nat.reduceAdd]
      have f6 := hf 6 (by decide) (by kernel_rfl)
      generalize vals 6 = v6 at *
      subst f6
      have f8 := hf 8 (by decide) (by kernel_rfl)
      generalize vals 8 = v8 at *
      subst f8
      have f4 := hf 4 (by decide) (by kernel_rfl)
      generalize vals 4 = v4 at *
      subst f4
      clear hf
      have hc1 := cellOf hb1
      have hf1 := frozOf hb1
      have hz1 := sizeOf hb1
      try simp at hz1
      go_wp2_with (first | (go_at_call 85; refine (c_spec_l1Least _ _ _ ).mono ?_; rintro e w' ⟨rfl, hb⟩; have hc := cellOf hb; have hf := frozOf hb; have hz := sizeOf hb; try simp at hz))
      exact RQ.mk rfl ⟨(by first | rfl | (simp [FS54_2]; done) | (simp [FS54_2, *]; done) | (simp [FS54_2, gotV]; done) | (simp [FS54_2, gotV]; omega)), fun h => absurd h (by decide)⟩ (by (repeat' (first | exact Below.refl _ _ | assumption | refine Below.setCell ?_ ?_ _ | refine Below.drew ?_ | refine Below.alloc ?_ ?_ _ | refine Below.trans ?_ (Below.mono (by assumption) ?_) | (simp; done) | (simp; omega) | omega)))
    | 10, _ =>
      injection ho with ho
      subst ho
      clear hl
      simp only [fillA, List.take, List.drop, put_none, Act.put, List.setIfInBounds_toArray, List.set_cons_zero, List.set_cons_succ, Nat.reduceAdd]
      have f4 := hf 4 (by decide) (by kernel_rfl)
      generalize vals 4 = v4 at *
      subst f4
      have f9 := hf 9 (by decide) (by kernel_rfl)
      generalize vals 9 = v9 at *
      subst f9
      clear hf
      go_wp2_with (fail)
      exact RQ.mk rfl ⟨(by first | rfl | (simp [FS54_2]; done) | (simp [FS54_2, *]; done) | (simp [FS54_2, gotV]; done) | (simp [FS54_2, gotV]; omega)), fun h => absurd h (by decide)⟩ (Below.refl _ _)
  · intro vals w1 hb1 hf hd
    simp only [fillA, List.take, List.drop, put_none, Act.put, List.setIfInBounds_toArray, List.set_cons_zero, List.set_cons_succ, Nat.reduceAdd]
    clear hd
    have f0 := hf 0 (by decide)
    generalize vals 0 = v0 at *
    subst f0
    have f1 := hf 1 (by decide)
    generalize vals 1 = v1 at *
    subst f1
    have f2 := hf 2 (by decide)
    generalize vals 2 = v2 at *
    subst f2
    have f3 := hf 3 (by decide)
    generalize vals 3 = v3 at *
    subst f3
    have f4 := hf 4 (by decide)
    generalize vals 4 = v4 at *
    subst f4
    have f5 := hf 5 (by decide)
    generalize vals 5 = v5 at *
    subst f5
    have f6 := hf 6 (by decide)
    generalize vals 6 = v6 at *
    subst f6
    have f7 := hf 7 (by decide)
    generalize vals 7 = v7 at *
    subst f7
    have f8 := hf 8 (by decide)
    generalize vals 8 = v8 at *
    subst f8
    have f9 := hf 9 (by decide)
    generalize vals 9 = v9 at *
    subst f9
    have f10 := hf 10 (by decide)
    generalize vals 10 = v10 at *
    subst f10
    clear hf
    have hc1 := cellOf hb1
    have hf1 := frozOf hb1
    have hz1 := sizeOf hb1
    try simp at hz1
    go_wp2_with (first | (go_at_call 84; refine (c_spec_l1Most _ _ _ ).mono ?_; rintro e w' ⟨rfl, hb⟩; have hc := cellOf hb; have hf := frozOf hb; have hz := sizeOf hb; try simp at hz) | (go_at_call 85; refine (c_spec_l1Least _ _ _ ).mono ?_; rintro e w' ⟨rfl, hb⟩; have hc := cellOf hb; have hf := frozOf hb; have hz := sizeOf hb; try simp at hz))
    all_goals go_ret
    all_goals
      refine ⟨ret_bool ?_, ?_⟩
      · first | rfl | omega | (simp [clashB]; done) | (simp [clashB]; omega) | (simp [clashB]; (repeat' split) <;> (first | omega | (simp; done) | (simp; omega))) | (simp_all [clashB]; done) | (simp_all [clashB]; omega)
      · (repeat' (first | exact Below.refl _ _ | assumption | refine Below.setCell ?_ ?_ _ | refine Below.drew ?_ | refine Below.alloc ?_ ?_ _ | refine Below.trans ?_ (Below.mono (by assumption) ?_) | (simp; done) | (simp; omega) | omega))

def FS54_2_2 (i a b i' a' b' g : Int) (w W0 : World) (iq : Nat) (v : Value) (w1 : World) : Prop := match iq with
  | 0 => v = .pointer (some ⟨w.heap.size, 2, none⟩)
  | 1 => v = .int .i64 (a)
  | 2 => v = .pointer (some ⟨w.heap.size + 1, 2, none⟩)
  | 3 => v = .int .i64 (a')
  | 4 => v = .int .i64 (max a (a'))
  | 5 => v = .pointer (some ⟨w.heap.size, 3, none⟩)
  | 6 => v = .int .i64 (b)
  | 7 => v = .pointer (some ⟨w.heap.size + 1, 3, none⟩)
  | 8 => v = .int .i64 (b')
  | 9 => v = .int .i64 (min (b) (b'))
  | 10 => v = .bool (decide ((max a (a')) < (min (b) (b'))))
  | _ => True

set_option maxHeartbeats 2000000 in
theorem c_spec_l14Clash_ft (i a b i' a' b' g : Int) (w : World) (hb_a : -99999 ≤ a ∧ a ≤ 99999) (hb_b : -99999 ≤ b ∧ b ≤ 99999) (hb_aq : -99999 ≤ a' ∧ a' ≤ 99999) (hb_bq : -99999 ≤ b' ∧ b' ≤ 99999) :
    Calls Try.prog 54 #[.agg #[.int .i64 (i), .bool (false), .int .i64 (a), .int .i64 (b)], .agg #[.int .i64 (i'), .bool (true), .int .i64 (a'), .int .i64 (b')], .int .i64 (g)] w fun e w' => e = .returned (.bool (clashB i false a b i' true a' b' g)) ∧ Below w.heap.size w w' := by
  go_enter Try.func54, Try.ntmps54
  go_wp2_with (first | (go_at_call 84; refine (c_spec_l1Most _ _ _ ).mono ?_; rintro e w' ⟨rfl, hb⟩; have hc := cellOf hb; have hf := frozOf hb; have hz := sizeOf hb; try simp at hz) | (go_at_call 85; refine (c_spec_l1Least _ _ _ ).mono ?_; rintro e w' ⟨rfl, hb⟩; have hc := cellOf hb; have hf := frozOf hb; have hz := sizeOf hb; try simp at hz))
  refine wp_region_w (n := 11) [] [] (FS54_2_2 i a b i' a' b' g w) rfl (by kernel_rfl) (fun _ _ d _ _ h => by cases d <;> exact h) ?_ ?_ ?_ ?_ ?_ ?_
  · intro iq
    match iq with
    | 0 | 1 | 2 | 3 | 4 | 5 | 6 | 7 | 8 | 9 | 10 => exact Stable.const _
    | n + 11 => exact Stable.const _
  · intro iq hi
    exact absurd hi (by simp)
  · intro iq hi
    exact absurd hi (by simp)
  · intro iq o hi hl ho vals w1 hb1 hf
    exact absurd hl (by simp)
  · intro iq o hi hl ho vals w1 hb1 hf
    match iq, hi with
    | 0, _ =>
      injection ho with ho
      subst ho
      clear hl
      simp only [fillA, List.take, List.drop, put_none, Act.put, List.setIfInBounds_toArray, List.set_cons_zero, List.set_cons_succ, Nat.reduceAdd]
      clear hf
      go_wp2_with (fail)
      exact RQ.mk rfl ⟨(by first | rfl | (simp [FS54_2_2]; done) | (simp [FS54_2_2, *]; done) | (simp [FS54_2_2, gotV]; done) | (simp [FS54_2_2, gotV]; omega)), fun h => absurd h (by decide)⟩ (Below.refl _ _)
    | 1, _ =>
      injection ho with ho
      subst ho
      clear hl
      simp only [fillA, List.take, List.drop, put_none, Act.put, List.setIfInBounds_toArray, List.set_cons_zero, List.set_cons_succ, Nat.reduceAdd]
      have f0 := hf 0 (by decide) (by kernel_rfl)
      generalize vals 0 = v0 at *
      subst f0
      clear hf
      have hc1 := cellOf hb1
      have hf1 := frozOf hb1
      have hz1 := sizeOf hb1
      try simp at hz1
      go_wp2_with (fail)
      exact RQ.mk rfl ⟨(by first | rfl | (simp [FS54_2_2]; done) | (simp [FS54_2_2, *]; done) | (simp [FS54_2_2, gotV]; done) | (simp [FS54_2_2, gotV]; omega)), fun h => absurd h (by decide)⟩ (Below.refl _ _)
    | 2, _ =>
      injection ho with ho
      subst ho
      clear hl
      simp only [fillA, List.take, List.drop, put_none, Act.put, List.setIfInBounds_toArray, List.set_cons_zero, List.set_cons_succ, Nat.reduceAdd]
      clear hf
      go_wp2_with (fail)
      exact RQ.mk rfl ⟨(by first | rfl | (simp [FS54_2_2]; done) | (simp [FS54_2_2, *]; done) | (simp [FS54_2_2, gotV]; done) | (simp [FS54_2_2, gotV]; omega)), fun h => absurd h (by decide)⟩ (Below.refl _ _)
    | 3, _ =>
      injection ho with ho
      subst ho
      clear hl
      simp only [fillA, List.take, List.drop, put_none, Act.put, List.setIfInBounds_toArray, List.set_cons_zero, List.set_cons_succ, Nat.reduceAdd]
      have f2 := hf 2 (by decide) (by kernel_rfl)
      generalize vals 2 = v2 at *
      subst f2
      clear hf
      have hc1 := cellOf hb1
      have hf1 := frozOf hb1
      have hz1 := sizeOf hb1
      try simp at hz1
      go_wp2_with (fail)
      exact RQ.mk rfl ⟨(by first | rfl | (simp [FS54_2_2]; done) | (simp [FS54_2_2, *]; done) | (simp [FS54_2_2, gotV]; done) | (simp [FS54_2_2, gotV]; omega)), fun h => absurd h (by decide)⟩ (Below.refl _ _)
    | 4, _ =>
      injection ho with ho
      subst ho
      clear hl
      simp only [fillA, List.take, List.drop, put_none, Act.put, List.setIfInBounds_toArray, List.set_cons_zero, List.set_cons_succ, Nat.reduceAdd]
      have f1 := hf 1 (by decide) (by kernel_rfl)
      generalize vals 1 = v1 at *
      subst f1
      have f3 := hf 3 (by decide) (by kernel_rfl)
      generalize vals 3 = v3 at *
      subst f3
      clear hf
      have hc1 := cellOf hb1
      have hf1 := frozOf hb1
      have hz1 := sizeOf hb1
      try simp at hz1
      go_wp2_with (first | (go_at_call 84; refine (c_spec_l1Most _ _ _ ).mono ?_; rintro e w' ⟨rfl, hb⟩; have hc := cellOf hb; have hf := frozOf hb; have hz := sizeOf hb; try simp at hz))
      exact RQ.mk rfl ⟨(by first | rfl | (simp [FS54_2_2]; done) | (simp [FS54_2_2, *]; done) | (simp [FS54_2_2, gotV]; done) | (simp [FS54_2_2, gotV]; omega)), fun h => absurd h (by decide)⟩ (by (repeat' (first | exact Below.refl _ _ | assumption | refine Below.setCell ?_ ?_ _ | refine Below.drew ?_ | refine Below.alloc ?_ ?_ _ | refine Below.trans ?_ (Below.mono (by assumption) ?_) | (simp; done) | (simp; omega) | omega)))
    | 5, _ =>
      injection ho with ho
      subst ho
      clear hl
      simp only [fillA, List.take, List.drop, put_none, Act.put, List.setIfInBounds_toArray, List.set_cons_zero, List.set_cons_succ, Nat.reduceAdd]
      clear hf
      go_wp2_with (fail)
      exact RQ.mk rfl ⟨(by first | rfl | (simp [FS54_2_2]; done) | (simp [FS54_2_2, *]; done) | (simp [FS54_2_2, gotV]; done) | (simp [FS54_2_2, gotV]; omega)), fun h => absurd h (by decide)⟩ (Below.refl _ _)
    | 6, _ =>
      injection ho with ho
      subst ho
      clear hl
      simp only [fillA, List.take, List.drop, put_none, Act.put, List.setIfInBounds_toArray, List.set_cons_zero, List.set_cons_succ, Nat.reduceAdd]
      have f5 := hf 5 (by decide) (by kernel_rfl)
      generalize vals 5 = v5 at *
      subst f5
      clear hf
      have hc1 := cellOf hb1
      have hf1 := frozOf hb1
      have hz1 := sizeOf hb1
      try simp at hz1
      go_wp2_with (fail)
      exact RQ.mk rfl ⟨(by first | rfl | (simp [FS54_2_2]; done) | (simp [FS54_2_2, *]; done) | (simp [FS54_2_2, gotV]; done) | (simp [FS54_2_2, gotV]; omega)), fun h => absurd h (by decide)⟩ (Below.refl _ _)
    | 7, _ =>
      injection ho with ho
      subst ho
      clear hl
      simp only [fillA, List.take, List.drop, put_none, Act.put, List.setIfInBounds_toArray, List.set_cons_zero, List.set_cons_succ, Nat.reduceAdd]
      clear hf
      go_wp2_with (fail)
      exact RQ.mk rfl ⟨(by first | rfl | (simp [FS54_2_2]; done) | (simp [FS54_2_2, *]; done) | (simp [FS54_2_2, gotV]; done) | (simp [FS54_2_2, gotV]; omega)), fun h => absurd h (by decide)⟩ (Below.refl _ _)
    | 8, _ =>
      injection ho with ho
      subst ho
      clear hl
      simp only [fillA, List.take, List.drop, put_none, Act.put, List.setIfInBounds_toArray, List.set_cons_zero, List.set_cons_succ, Nat.reduceAdd]
      have f7 := hf 7 (by decide) (by kernel_rfl)
      generalize vals 7 = v7 at *
      subst f7
      clear hf
      have hc1 := cellOf hb1
      have hf1 := frozOf hb1
      have hz1 := sizeOf hb1
      try simp at hz1
      go_wp2_with (fail)
      exact RQ.mk rfl ⟨(by first | rfl | (simp [FS54_2_2]; done) | (simp [FS54_2_2, *]; done) | (simp [FS54_2_2, gotV]; done) | (simp [FS54_2_2, gotV]; omega)), fun h => absurd h (by decide)⟩ (Below.refl _ _)
    | 9, _ =>
      injection ho with ho
      subst ho
      clear hl
      simp only [fillA, List.take, List.drop, put_none, Act.put, List.setIfInBounds_toArray, List.set_cons_zero, List.set_cons_succ, Nat.reduceAdd]
      have f6 := hf 6 (by decide) (by kernel_rfl)
      generalize vals 6 = v6 at *
      subst f6
      have f8 := hf 8 (by decide) (by kernel_rfl)
      generalize vals 8 = v8 at *
      subst f8
      have f4 := hf 4 (by decide) (by kernel_rfl)
      generalize vals 4 = v4 at *
      subst f4
      clear hf
      have hc1 := cellOf hb1
      have hf1 := frozOf hb1
      have hz1 := sizeOf hb1
      try simp at hz1
      go_wp2_with (first | (go_at_call 85; refine (c_spec_l1Least _ _ _ ).mono ?_; rintro e w' ⟨rfl, hb⟩; have hc := cellOf hb; have hf := frozOf hb; have hz := sizeOf hb; try simp at hz))
      exact RQ.mk rfl ⟨(by first | rfl | (simp [FS54_2_2]; done) | (simp [FS54_2_2, *]; done) | (simp [FS54_2_2, gotV]; done) | (simp [FS54_2_2, gotV]; omega)), fun h => absurd h (by decide)⟩ (by (repeat' (first | exact Below.refl _ _ | assumption | refine Below.setCell ?_ ?_ _ | refine Below.drew ?_ | refine Below.alloc ?_ ?_ _ | refine Below.trans ?_ (Below.mono (by assumption) ?_) | (simp; done) | (simp; omega) | omega)))
    | 10, _ =>
      injection ho with ho
      subst ho
      clear hl
      simp only [fillA, List.take, List.drop, put_none, Act.put, List.setIfInBounds_toArray, List.set_cons_zero, List.set_cons_succ, Nat.reduceAdd]
      have f4 := hf 4 (by decide) (by kernel_rfl)
      generalize vals 4 = v4 at *
      subst f4
      have f9 := hf 9 (by decide) (by kernel_rfl)
      generalize vals 9 = v9 at *
      subst f9
      clear hf
      go_wp2_with (fail)
      exact RQ.mk rfl ⟨(by first | rfl | (simp [FS54_2_2]; done) | (simp [FS54_2_2, *]; done) | (simp [FS54_2_2, gotV]; done) | (simp [FS54_2_2, gotV]; omega)), fun h => absurd h (by decide)⟩ (Below.refl _ _)
  · intro vals w1 hb1 hf hd
    simp only [fillA, List.take, List.drop, put_none, Act.put, List.setIfInBounds_toArray, List.set_cons_zero, List.set_cons_succ, Nat.reduceAdd]
    clear hd
    have f0 := hf 0 (by decide)
    generalize vals 0 = v0 at *
    subst f0
    have f1 := hf 1 (by decide)
    generalize vals 1 = v1 at *
    subst f1
    have f2 := hf 2 (by decide)
    generalize vals 2 = v2 at *
    subst f2
    have f3 := hf 3 (by decide)
    generalize vals 3 = v3 at *
    subst f3
    have f4 := hf 4 (by decide)
    generalize vals 4 = v4 at *
    subst f4
    have f5 := hf 5 (by decide)
    generalize vals 5 = v5 at *
    subst f5
    have f6 := hf 6 (by decide)
    generalize vals 6 = v6 at *
    subst f6
    have f7 := hf 7 (by decide)
    generalize vals 7 = v7 at *
    subst f7
    have f8 := hf 8 (by decide)
    generalize vals 8 = v8 at *
    subst f8
    have f9 := hf 9 (by decide)
    generalize vals 9 = v9 at *
    subst f9
    have f10 := hf 10 (by decide)
    generalize vals 10 = v10 at *
    subst f10
    clear hf
    have hc1 := cellOf hb1
    have hf1 := frozOf hb1
    have hz1 := sizeOf hb1
    try simp at hz1
    go_wp2_with (first | (go_at_call 84; refine (c_spec_l1Most _ _ _ ).mono ?_; rintro e w' ⟨rfl, hb⟩; have hc := cellOf hb; have hf := frozOf hb; have hz := sizeOf hb; try simp at hz) | (go_at_call 85; refine (c_spec_l1Least _ _ _ ).mono ?_; rintro e w' ⟨rfl, hb⟩; have hc := cellOf hb; have hf := frozOf hb; have hz := sizeOf hb; try simp at hz))
    all_goals go_ret
    all_goals
      refine ⟨ret_bool ?_, ?_⟩
      · first | rfl | omega | (simp [clashB]; done) | (simp [clashB]; omega) | (simp [clashB]; (repeat' split) <;> (first | omega | (simp; done) | (simp; omega))) | (simp_all [clashB]; done) | (simp_all [clashB]; omega)
      · (repeat' (first | exact Below.refl _ _ | assumption | refine Below.setCell ?_ ?_ _ | refine Below.drew ?_ | refine Below.alloc ?_ ?_ _ | refine Below.trans ?_ (Below.mono (by assumption) ?_) | (simp; done) | (simp; omega) | omega))

set_option maxHeartbeats 2000000 in
theorem c_spec_l14Clash_ff (i a b i' a' b' g : Int) (w : World) (hb_a : -99999 ≤ a ∧ a ≤ 99999) (hb_b : -99999 ≤ b ∧ b ≤ 99999) (hb_aq : -99999 ≤ a' ∧ a' ≤ 99999) (hb_bq : -99999 ≤ b' ∧ b' ≤ 99999) :
    Calls Try.prog 54 #[.agg #[.int .i64 (i), .bool (false), .int .i64 (a), .int .i64 (b)], .agg #[.int .i64 (i'), .bool (false), .int .i64 (a'), .int .i64 (b')], .int .i64 (g)] w fun e w' => e = .returned (.bool (clashB i false a b i' false a' b' g)) ∧ Below w.heap.size w w' := by
  go_enter Try.func54, Try.ntmps54
  go_wp2_with (first | (go_at_call 84; refine (c_spec_l1Most _ _ _ ).mono ?_; rintro e w' ⟨rfl, hb⟩; have hc := cellOf hb; have hf := frozOf hb; have hz := sizeOf hb; try simp at hz) | (go_at_call 85; refine (c_spec_l1Least _ _ _ ).mono ?_; rintro e w' ⟨rfl, hb⟩; have hc := cellOf hb; have hf := frozOf hb; have hz := sizeOf hb; try simp at hz))
  all_goals go_ret
  all_goals
    refine ⟨ret_bool ?_, ?_⟩
    · first | rfl | omega | (simp [clashB]; done) | (simp [clashB]; omega) | (simp [clashB]; (repeat' split) <;> (first | omega | (simp; done) | (simp; omega))) | (simp_all [clashB]; done) | (simp_all [clashB]; omega)
    · (repeat' (first | exact Below.refl _ _ | assumption | refine Below.setCell ?_ ?_ _ | refine Below.drew ?_ | refine Below.alloc ?_ ?_ _ | refine Below.trans ?_ (Below.mono (by assumption) ?_) | (simp; done) | (simp; omega) | omega))

theorem c_spec_l14Clash (i : Int) (d : Bool) (a b : Int) (i' : Int) (d' : Bool) (a' b' : Int) (g : Int) (w : World) (hb_a : -99999 ≤ a ∧ a ≤ 99999) (hb_b : -99999 ≤ b ∧ b ≤ 99999) (hb_aq : -99999 ≤ a' ∧ a' ≤ 99999) (hb_bq : -99999 ≤ b' ∧ b' ≤ 99999) :
    Calls Try.prog 54 #[.agg #[.int .i64 i, .bool d, .int .i64 a, .int .i64 b], .agg #[.int .i64 i', .bool d', .int .i64 a', .int .i64 b'], .int .i64 g] w fun e w' => e = .returned (.bool (clashB i d a b i' d' a' b' g)) ∧ Below w.heap.size w w' := by
  cases d <;> cases d'
  · exact c_spec_l14Clash_ff i a b i' a' b' g w hb_a hb_b hb_aq hb_bq
  · exact c_spec_l14Clash_ft i a b i' a' b' g w hb_a hb_b hb_aq hb_bq
  · exact c_spec_l14Clash_tf i a b i' a' b' g w hb_a hb_b hb_aq hb_bq
  · exact c_spec_l14Clash_tt i a b i' a' b' g w hb_a hb_b hb_aq hb_bq

end Go.Proofs.Ytgjbdcalmodhpaa
