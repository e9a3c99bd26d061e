import Derived.Test.YthlmeofjjmfpnaaIvL
import Derived.Test.YthlmeofjjmfpnaaDr1
import Derived.Test.YthlmeofjjmfpnaaDr2
import Derived.Test.YthlmeofjjmfpnaaDr3
import Derived.Test.YthlmeofjjmfpnaaDr4
import Derived.Test.YthlmeofjjmfpnaaT3
import Derived.Test.YthlmeofjjmfpnaaT4
namespace Go.Proofs.Ythlmeofjjmfpnaa
set_option linter.unusedSimpArgs false
set_option linter.unusedVariables false
open Go.RowKit

def FS13_6 (a b ja jb : Int) (ok : Bool) (W2 W3 W4 : World) (w W0 : World) (iq : Nat) (v : Value) (w1 : World) : Prop := match iq with
  | 0 => v = .agg #[.int .i64 (ja), .int .i64 (jb)]
  | 1 => v = .agg #[.int .i64 (ja), .int .i64 (jb)]
  | 2 => v = .bool (false)
  | 3 => v = .bool (false)
  | 4 => v = .bool (ok)
  | 5 => v = .bool (ok)
  | 6 => v = .bool (false)
  | 7 => v = .bool (false)
  | 8 => v = .bool (false)
  | 9 => v = .agg #[.int .i64 (a), .int .i64 (b)]
  | 10 => v = .bool (goodI a b)
  | 11 => v = .agg #[.int .i64 (a), .int .i64 (b)]
  | 12 => v = .bool (goodI a b)
  | 13 => v = .bool (false)
  | 14 => v = .bool (false)
  | _ => True

set_option maxRecDepth 100000 in
set_option maxHeartbeats 16000000 in
theorem c_laws_FnIntervals (A : Option Addr) (cs : List Int) (cap : Nat) (w : World) (hr : Rds cB 1 w A cs) (hby : Bytes cs) (hn : cs.length ≤ 9223372036854775807) :
    Calls Try.prog 13 #[.slice A cs.length cap] w fun e w' => e = .returned (.bool true) ∧ Below w.heap.size w w' := by
  by_cases hbig : 65536 < cs.length
  · go_enter Try.func13, Try.ntmps13
    go_wp2_with (fail); refine (c_laws_vBig _ _ _ _ (by omega)).mono ?_; rintro e W1 ⟨rfl, hb1⟩; have hc1 := cellOf hb1; have hf1 := frozOf hb1; have hz1 := sizeOf hb1; (try simp at hz1)
    simp only [show decide (65536 < cs.length) = true by simp; omega]
    go_wp2_with (fail)
    go_ret
    exact ⟨rfl, by (repeat' (first | exact Below.refl _ _ | assumption | refine Below.setCell ?_ ?_ _ | refine Below.drew ?_ | refine Below.alloc ?_ ?_ _ | refine Below.trans ?_ (Below.mono (by assumption) ?_) | (simp; done) | (simp; omega) | omega))⟩
  go_enter Try.func13, Try.ntmps13
  go_wp2_with (fail); refine (c_laws_vBig _ _ _ _ (by omega)).mono ?_; rintro e W1 ⟨rfl, hb1⟩; have hc1 := cellOf hb1; have hf1 := frozOf hb1; have hz1 := sizeOf hb1; (try simp at hz1)
  simp only [show decide (65536 < cs.length) = false by simp; omega]
  go_wp2_with (fail); refine (c_spec_DrawAfterLeg A cs cap _ (hr.below (by (repeat' (first | exact Below.refl _ _ | assumption | refine Below.setCell ?_ ?_ _ | refine Below.drew ?_ | refine Below.alloc ?_ ?_ _ | refine Below.trans ?_ (Below.mono (by assumption) ?_) | (simp; done) | (simp; omega) | omega)))) hby (by omega)).mono ?_; rintro e W2 ⟨a, b, l, m, rfl, h1, h2, h3, h4, hb2⟩; have hc2 := cellOf hb2; have hf2 := frozOf hb2; have hz2 := sizeOf hb2; (try simp at hz2)
  obtain ⟨ja, jb, ok, hj⟩ : ∃ ja jb ok, afterI a b l m = ((ja, jb), ok) := ⟨_, _, _, rfl⟩
  go_wp2_with (fail); refine (c_impl_AfterLeg _ _ _ _ _).mono ?_; rintro e W3 ⟨rfl, hb3⟩; have hc3 := cellOf hb3; have hf3 := frozOf hb3; have hz3 := sizeOf hb3; (try simp at hz3); simp only [hj]
  go_wp2_with (fail); refine (c_spec_AfterLeg _ _ _ _ _).mono ?_; rintro e W4 ⟨rfl, hb4⟩; have hc4 := cellOf hb4; have hf4 := frozOf hb4; have hz4 := sizeOf hb4; (try simp at hz4); simp only [hj]
  go_wp2_with (fail)
  refine wp_region_w (n := 15) [] [] (FS13_6 a b ja jb ok W2 W3 W4 w) rfl (by kernel_rfl) (fun _ _ d _ _ h => by cases d <;> exact h) ?_ ?_ ?_ ?_ ?_ ?_
  · intro iq
    match iq with
    | 0 | 1 | 2 | 3 | 4 | 5 | 6 | 7 | 8 | 9 | 10 | 11 | 12 | 13 | 14 => exact Stable.const _
    | n + 15 => exact Stable.const _
  · intro iq hi
    exact absurd hi (by simp)
  · intro iq hi
    exact absurd hi (by simp)
  · intro iq o hi hl ho vals w1 hb1 hf
    exact absurd hl (by simp)
  · intro iq o hi hl ho vals w1 hb1 hf
    match iq, hi with
    | 0, _ =>
      injection ho with ho
      subst ho
      clear hl
      simp only [fillA, List.take, List.drop, put_none, Act.put, List.setIfInBounds_toArray, List.set_cons_zero, List.set_cons_succ, Nat.reduceAdd]
      clear hf
      have hc1 := cellOf hb1
      have hf1 := frozOf hb1
      have hz1 := sizeOf hb1
      try simp at hz1
      go_wp2_with (fail)
      exact RQ.mk rfl ⟨(by first | rfl | (simp [FS13_6]; done) | (simp [FS13_6, *]; done) | (simp [FS13_6, gotV]; done) | (simp [FS13_6, gotV]; omega)), fun h => absurd h (by decide)⟩ (Below.refl _ _)
    | 1, _ =>
      injection ho with ho
      subst ho
      clear hl
      simp only [fillA, List.take, List.drop, put_none, Act.put, List.setIfInBounds_toArray, List.set_cons_zero, List.set_cons_succ, Nat.reduceAdd]
      clear hf
      have hc1 := cellOf hb1
      have hf1 := frozOf hb1
      have hz1 := sizeOf hb1
      try simp at hz1
      go_wp2_with (fail)
      exact RQ.mk rfl ⟨(by first | rfl | (simp [FS13_6]; done) | (simp [FS13_6, *]; done) | (simp [FS13_6, gotV]; done) | (simp [FS13_6, gotV]; omega)), fun h => absurd h (by decide)⟩ (Below.refl _ _)
    | 2, _ =>
      injection ho with ho
      subst ho
      clear hl
      simp only [fillA, List.take, List.drop, put_none, Act.put, List.setIfInBounds_toArray, List.set_cons_zero, List.set_cons_succ, Nat.reduceAdd]
      have f0 := hf 0 (by decide) (by kernel_rfl)
      generalize vals 0 = v0 at *
      subst f0
      have f1 := hf 1 (by decide) (by kernel_rfl)
      generalize vals 1 = v1 at *
      subst f1
      clear hf
      go_wp2_with (fail)
      exact RQ.mk rfl ⟨(by first | rfl | (simp [FS13_6]; done) | (simp [FS13_6, *]; done) | (simp [FS13_6, gotV]; done) | (simp [FS13_6, gotV]; omega)), fun h => absurd h (by decide)⟩ (Below.refl _ _)
    | 3, _ =>
      injection ho with ho
      subst ho
      clear hl
      simp only [fillA, List.take, List.drop, put_none, Act.put, List.setIfInBounds_toArray, List.set_cons_zero, List.set_cons_succ, Nat.reduceAdd]
      have f2 := hf 2 (by decide) (by kernel_rfl)
      generalize vals 2 = v2 at *
      subst f2
      clear hf
      go_wp2_with (fail)
      exact RQ.mk rfl ⟨(by first | rfl | (simp [FS13_6]; done) | (simp [FS13_6, *]; done) | (simp [FS13_6, gotV]; done) | (simp [FS13_6, gotV]; omega)), fun h => absurd h (by decide)⟩ (Below.refl _ _)
    | 4, _ =>
      injection ho with ho
      subst ho
      clear hl
      simp only [fillA, List.take, List.drop, put_none, Act.put, List.setIfInBounds_toArray, List.set_cons_zero, List.set_cons_succ, Nat.reduceAdd]
      have f3 := hf 3 (by decide) (by kernel_rfl)
      generalize vals 3 = v3 at *
      subst f3
      clear hf
      go_wp2_with (fail)
      exact RQ.mk rfl ⟨(by first | rfl | (simp [FS13_6]; done) | (simp [FS13_6, *]; done) | (simp [FS13_6, gotV]; done) | (simp [FS13_6, gotV]; omega)), fun h => absurd h (by decide)⟩ (Below.refl _ _)
    | 5, _ =>
      injection ho with ho
      subst ho
      clear hl
      simp only [fillA, List.take, List.drop, put_none, Act.put, List.setIfInBounds_toArray, List.set_cons_zero, List.set_cons_succ, Nat.reduceAdd]
      have f3 := hf 3 (by decide) (by kernel_rfl)
      generalize vals 3 = v3 at *
      subst f3
      clear hf
      go_wp2_with (fail)
      exact RQ.mk rfl ⟨(by first | rfl | (simp [FS13_6]; done) | (simp [FS13_6, *]; done) | (simp [FS13_6, gotV]; done) | (simp [FS13_6, gotV]; omega)), fun h => absurd h (by decide)⟩ (Below.refl _ _)
    | 6, _ =>
      injection ho with ho
      subst ho
      clear hl
      simp only [fillA, List.take, List.drop, put_none, Act.put, List.setIfInBounds_toArray, List.set_cons_zero, List.set_cons_succ, Nat.reduceAdd]
      have f4 := hf 4 (by decide) (by kernel_rfl)
      generalize vals 4 = v4 at *
      subst f4
      have f5 := hf 5 (by decide) (by kernel_rfl)
      generalize vals 5 = v5 at *
      subst f5
      have f3 := hf 3 (by decide) (by kernel_rfl)
      generalize vals 3 = v3 at *
      subst f3
      clear hf
      go_wp2_with (fail)
      exact RQ.mk rfl ⟨(by first | rfl | (simp [FS13_6]; done) | (simp [FS13_6, *]; done) | (simp [FS13_6, gotV]; done) | (simp [FS13_6, gotV]; omega)), fun h => absurd h (by decide)⟩ (Below.refl _ _)
    | 7, _ =>
      injection ho with ho
      subst ho
      clear hl
      simp only [fillA, List.take, List.drop, put_none, Act.put, List.setIfInBounds_toArray, List.set_cons_zero, List.set_cons_succ, Nat.reduceAdd]
      have f3 := hf 3 (by decide) (by kernel_rfl)
      generalize vals 3 = v3 at *
      subst f3
      have f6 := hf 6 (by decide) (by kernel_rfl)
      generalize vals 6 = v6 at *
      subst f6
      clear hf
      go_wp2_with (fail)
      exact RQ.mk rfl ⟨(by first | rfl | (simp [FS13_6]; done) | (simp [FS13_6, *]; done) | (simp [FS13_6, gotV]; done) | (simp [FS13_6, gotV]; omega)), fun h => absurd h (by decide)⟩ (Below.refl _ _)
    | 8, _ =>
      injection ho with ho
      subst ho
      clear hl
      simp only [fillA, List.take, List.drop, put_none, Act.put, List.setIfInBounds_toArray, List.set_cons_zero, List.set_cons_succ, Nat.reduceAdd]
      have f7 := hf 7 (by decide) (by kernel_rfl)
      generalize vals 7 = v7 at *
      subst f7
      have f3 := hf 3 (by decide) (by kernel_rfl)
      generalize vals 3 = v3 at *
      subst f3
      clear hf
      go_wp2_with (fail)
      exact RQ.mk rfl ⟨(by first | rfl | (simp [FS13_6]; done) | (simp [FS13_6, *]; done) | (simp [FS13_6, gotV]; done) | (simp [FS13_6, gotV]; omega)), fun h => absurd h (by decide)⟩ (Below.refl _ _)
    | 9, _ =>
      injection ho with ho
      subst ho
      clear hl
      simp only [fillA, List.take, List.drop, put_none, Act.put, List.setIfInBounds_toArray, List.set_cons_zero, List.set_cons_succ, Nat.reduceAdd]
      have f8 := hf 8 (by decide) (by kernel_rfl)
      generalize vals 8 = v8 at *
      subst f8
      clear hf
      have hc1 := cellOf hb1
      have hf1 := frozOf hb1
      have hz1 := sizeOf hb1
      try simp at hz1
      go_wp2_with (fail)
      exact RQ.mk rfl ⟨(by first | rfl | (simp [FS13_6]; done) | (simp [FS13_6, *]; done) | (simp [FS13_6, gotV]; done) | (simp [FS13_6, gotV]; omega)), fun h => absurd h (by decide)⟩ (Below.refl _ _)
    | 10, _ =>
      injection ho with ho
      subst ho
      clear hl
      simp only [fillA, List.take, List.drop, put_none, Act.put, List.setIfInBounds_toArray, List.set_cons_zero, List.set_cons_succ, Nat.reduceAdd]
      have f9 := hf 9 (by decide) (by kernel_rfl)
      generalize vals 9 = v9 at *
      subst f9
      have f8 := hf 8 (by decide) (by kernel_rfl)
      generalize vals 8 = v8 at *
      subst f8
      clear hf
      have hc1 := cellOf hb1
      have hf1 := frozOf hb1
      have hz1 := sizeOf hb1
      try simp at hz1
      go_wp2_with (first | (go_at_call 17; refine (c_impl_IsInterval _ _ _ ).mono ?_; rintro e w' ⟨rfl, hb⟩; have hc := cellOf hb; have hf := frozOf hb; have hz := sizeOf hb; try simp at hz))
      exact RQ.mk rfl ⟨(by first | rfl | (simp [FS13_6]; done) | (simp [FS13_6, *]; done) | (simp [FS13_6, gotV]; done) | (simp [FS13_6, gotV]; omega)), fun h => absurd h (by decide)⟩ (by (repeat' (first | exact Below.refl _ _ | assumption | refine Below.setCell ?_ ?_ _ | refine Below.drew ?_ | refine Below.alloc ?_ ?_ _ | refine Below.trans ?_ (Below.mono (by assumption) ?_) | (simp; done) | (simp; omega) | omega)))
    | 11, _ =>
      injection ho with ho
      subst ho
      clear hl
      simp only [fillA, List.take, List.drop, put_none, Act.put, List.setIfInBounds_toArray, List.set_cons_zero, List.set_cons_succ, Nat.reduceAdd]
      have f8 := hf 8 (by decide) (by kernel_rfl)
      generalize vals 8 = v8 at *
      subst f8
      clear hf
      have hc1 := cellOf hb1
      have hf1 := frozOf hb1
      have hz1 := sizeOf hb1
      try simp at hz1
      go_wp2_with (fail)
      exact RQ.mk rfl ⟨(by first | rfl | (simp [FS13_6]; done) | (simp [FS13_6, *]; done) | (simp [FS13_6, gotV]; done) | (simp [FS13_6, gotV]; omega)), fun h => absurd h (by decide)⟩ (Below.refl _ _)
    | 12, _ =>
      injection ho with ho
      subst ho
      clear hl
      simp only [fillA, List.take, List.drop, put_none, Act.put, List.setIfInBounds_toArray, List.set_cons_zero, List.set_cons_succ, Nat.reduceAdd]
      have f11 := hf 11 (by decide) (by kernel_rfl)
      generalize vals 11 = v11 at *
      subst f11
      have f10 := hf 10 (by decide) (by kernel_rfl)
      generalize vals 10 = v10 at *
      subst f10
      have f8 := hf 8 (by decide) (by kernel_rfl)
      generalize vals 8 = v8 at *
      subst f8
      clear hf
      have hc1 := cellOf hb1
      have hf1 := frozOf hb1
      have hz1 := sizeOf hb1
      try simp at hz1
      go_wp2_with (first | (go_at_call 15; refine (c_spec_IsInterval _ _ _ ).mono ?_; rintro e w' ⟨rfl, hb⟩; have hc := cellOf hb; have hf := frozOf hb; have hz := sizeOf hb; try simp at hz))
      exact RQ.mk rfl ⟨(by first | rfl | (simp [FS13_6]; done) | (simp [FS13_6, *]; done) | (simp [FS13_6, gotV]; done) | (simp [FS13_6, gotV]; omega)), fun h => absurd h (by decide)⟩ (by (repeat' (first | exact Below.refl _ _ | assumption | refine Below.setCell ?_ ?_ _ | refine Below.drew ?_ | refine Below.alloc ?_ ?_ _ | refine Below.trans ?_ (Below.mono (by assumption) ?_) | (simp; done) | (simp; omega) | omega)))
    | 13, _ =>
      injection ho with ho
      subst ho
      clear hl
      simp only [fillA, List.take, List.drop, put_none, Act.put, List.setIfInBounds_toArray, List.set_cons_zero, List.set_cons_succ, Nat.reduceAdd]
      have f10 := hf 10 (by decide) (by kernel_rfl)
      generalize vals 10 = v10 at *
      subst f10
      have f12 := hf 12 (by decide) (by kernel_rfl)
      generalize vals 12 = v12 at *
      subst f12
      have f8 := hf 8 (by decide) (by kernel_rfl)
      generalize vals 8 = v8 at *
      subst f8
      clear hf
      go_wp2_with (fail)
      exact RQ.mk rfl ⟨(by first | rfl | (simp [FS13_6]; done) | (simp [FS13_6, *]; done) | (simp [FS13_6, gotV]; done) | (simp [FS13_6, gotV]; omega)), fun h => absurd h (by decide)⟩ (Below.refl _ _)
    | 14, _ =>
      injection ho with ho
      subst ho
      clear hl
      simp only [fillA, List.take, List.drop, put_none, Act.put, List.setIfInBounds_toArray, List.set_cons_zero, List.set_cons_succ, Nat.reduceAdd]
      have f8 := hf 8 (by decide) (by kernel_rfl)
      generalize vals 8 = v8 at *
      subst f8
      have f13 := hf 13 (by decide) (by kernel_rfl)
      generalize vals 13 = v13 at *
      subst f13
      clear hf
      go_wp2_with (fail)
      exact RQ.mk rfl ⟨(by first | rfl | (simp [FS13_6]; done) | (simp [FS13_6, *]; done) | (simp [FS13_6, gotV]; done) | (simp [FS13_6, gotV]; omega)), fun h => absurd h (by decide)⟩ (Below.refl _ _)
    | m + 15, h => exact absurd h (by omega)
  · intro vals V hb1 hf hd
    simp only [fillA, List.take, List.drop, put_none, Act.put, List.setIfInBounds_toArray, List.set_cons_zero, List.set_cons_succ, Nat.reduceAdd]
    clear hd
    have f0 := hf 0 (by decide)
    generalize vals 0 = v0 at *
    subst f0
    have f1 := hf 1 (by decide)
    generalize vals 1 = v1 at *
    subst f1
    have f2 := hf 2 (by decide)
    generalize vals 2 = v2 at *
    subst f2
    have f3 := hf 3 (by decide)
    generalize vals 3 = v3 at *
    subst f3
    have f4 := hf 4 (by decide)
    generalize vals 4 = v4 at *
    subst f4
    have f5 := hf 5 (by decide)
    generalize vals 5 = v5 at *
    subst f5
    have f6 := hf 6 (by decide)
    generalize vals 6 = v6 at *
    subst f6
    have f7 := hf 7 (by decide)
    generalize vals 7 = v7 at *
    subst f7
    have f8 := hf 8 (by decide)
    generalize vals 8 = v8 at *
    subst f8
    have f9 := hf 9 (by decide)
    generalize vals 9 = v9 at *
    subst f9
    have f10 := hf 10 (by decide)
    generalize vals 10 = v10 at *
    subst f10
    have f11 := hf 11 (by decide)
    generalize vals 11 = v11 at *
    subst f11
    have f12 := hf 12 (by decide)
    generalize vals 12 = v12 at *
    subst f12
    have f13 := hf 13 (by decide)
    generalize vals 13 = v13 at *
    subst f13
    have f14 := hf 14 (by decide)
    generalize vals 14 = v14 at *
    subst f14
    clear hf
    have hc1 := cellOf hb1
    have hf1 := frozOf hb1
    have hz1 := sizeOf hb1
    try simp at hz1
    cases ok
    rotate_left
    obtain ⟨hjb, p, q, hB, hC, hE⟩ := iv_back hj
    go_wp2_with (fail); refine (c_impl_BeforeLeg _ _ _ _ _).mono ?_; rintro e W5 ⟨rfl, hb5⟩; have hc5 := cellOf hb5; have hf5 := frozOf hb5; have hz5 := sizeOf hb5; (try simp at hz5); simp only [hB]
    go_wp2_with (fail); refine (c_impl_CommonInterval _ _ _ _ _).mono ?_; rintro e W6 ⟨rfl, hb6⟩; have hc6 := cellOf hb6; have hf6 := frozOf hb6; have hz6 := sizeOf hb6; (try simp at hz6); simp only [hC]
    all_goals (go_wp2_with (fail); refine (c_spec_DrawBeforeLeg A cs cap _ (hr.below (by (repeat' (first | exact Below.refl _ _ | assumption | refine Below.setCell ?_ ?_ _ | refine Below.drew ?_ | refine Below.alloc ?_ ?_ _ | refine Below.trans ?_ (Below.mono (by assumption) ?_) | (simp; done) | (simp; omega) | omega)))) hby (by omega)).mono ?_; rintro e W7 ⟨x1, x2, y1, y2, rfl, h5, h6, h7, h8, hb7⟩; have hc7 := cellOf hb7; have hf7 := frozOf hb7; have hz7 := sizeOf hb7; (try simp at hz7))
    all_goals (obtain ⟨u, v, told, ht⟩ : ∃ u v told, beforeI x1 x2 y1 y2 = ((u, v), told) := ⟨_, _, _, rfl⟩)
    all_goals (go_wp2_with (fail); refine (c_impl_BeforeLeg _ _ _ _ _).mono ?_; rintro e W8 ⟨rfl, hb8⟩; have hc8 := cellOf hb8; have hf8 := frozOf hb8; have hz8 := sizeOf hb8; (try simp at hz8); simp only [ht])
    all_goals (go_wp2_with (fail); refine (c_spec_BeforeLeg _ _ _ _ _).mono ?_; rintro e W9 ⟨rfl, hb9⟩; have hc9 := cellOf hb9; have hf9 := frozOf hb9; have hz9 := sizeOf hb9; (try simp at hz9); simp only [ht])
    all_goals (cases told)
    all_goals try (obtain ⟨s, t, one, hs⟩ : ∃ s t one, afterI u v y1 y2 = ((s, t), one) := ⟨_, _, _, rfl⟩; go_wp2_with (fail); refine (c_impl_AfterLeg _ _ _ _ _).mono ?_; rintro e W10 ⟨rfl, hb10⟩; have hc10 := cellOf hb10; have hf10 := frozOf hb10; have hz10 := sizeOf hb10; (try simp at hz10); simp only [hs]; cases one)
    all_goals try (obtain ⟨mx, my, hM⟩ := iv_meet ht hs; go_wp2_with (fail); refine (c_impl_CommonInterval _ _ _ _ _).mono ?_; rintro e W11 ⟨rfl, hb11⟩; have hc11 := cellOf hb11; have hf11 := frozOf hb11; have hz11 := sizeOf hb11; (try simp at hz11); simp only [hM])
    all_goals (go_wp2_with (fail); refine (c_spec_DrawCommonInterval A cs cap _ (hr.below (by (repeat' (first | exact Below.refl _ _ | assumption | refine Below.setCell ?_ ?_ _ | refine Below.drew ?_ | refine Below.alloc ?_ ?_ _ | refine Below.trans ?_ (Below.mono (by assumption) ?_) | (simp; done) | (simp; omega) | omega)))) hby (by omega)).mono ?_; rintro e W12 ⟨c1, c2, d1, d2, rfl, k1, k2, k3, k4, hb12⟩; have hc12 := cellOf hb12; have hf12 := frozOf hb12; have hz12 := sizeOf hb12; (try simp at hz12))
    all_goals (obtain ⟨e1, e2, fine, hfi⟩ : ∃ e1 e2 fine, commonI c1 c2 d1 d2 = ((e1, e2), fine) := ⟨_, _, _, rfl⟩)
    all_goals (obtain ⟨g1, g2, known, hkn⟩ : ∃ g1 g2 known, coverI c1 c2 d1 d2 = ((g1, g2), known) := ⟨_, _, _, rfl⟩)
    all_goals cases fine
    all_goals try (obtain ⟨hpq, x, y, hK, hxy, hsum⟩ := iv_sum hfi; rw [hkn] at hK; simp only [Prod.mk.injEq] at hK; obtain ⟨⟨rfl, rfl⟩, rfl⟩ := hK)
    all_goals (go_wp2_with (fail); refine (c_impl_CommonInterval _ _ _ _ _).mono ?_; rintro e W13 ⟨rfl, hb13⟩; have hc13 := cellOf hb13; have hf13 := frozOf hb13; have hz13 := sizeOf hb13; (try simp at hz13); simp only [hfi])
    all_goals (go_wp2_with (fail); refine (c_impl_CoverInterval _ _ _ _ _).mono ?_; rintro e W14 ⟨rfl, hb14⟩; have hc14 := cellOf hb14; have hf14 := frozOf hb14; have hz14 := sizeOf hb14; (try simp at hz14); simp only [hkn])
    all_goals (go_wp2_with (fail); refine (c_spec_CommonInterval _ _ _ _ _).mono ?_; rintro e W15 ⟨rfl, hb15⟩; have hc15 := cellOf hb15; have hf15 := frozOf hb15; have hz15 := sizeOf hb15; (try simp at hz15); simp only [hfi])
    all_goals (go_wp2_with (fail); refine (c_spec_CoverInterval _ _ _ _ _).mono ?_; rintro e W16 ⟨rfl, hb16⟩; have hc16 := cellOf hb16; have hf16 := frozOf hb16; have hz16 := sizeOf hb16; (try simp at hz16); simp only [hkn])
    all_goals (go_wp2_with (fail); refine (c_spec_DrawNotBefore A cs cap _ (hr.below (by (repeat' (first | exact Below.refl _ _ | assumption | refine Below.setCell ?_ ?_ _ | refine Below.drew ?_ | refine Below.alloc ?_ ?_ _ | refine Below.trans ?_ (Below.mono (by assumption) ?_) | (simp; done) | (simp; omega) | omega)))) hby (by omega)).mono ?_; rintro e W17 ⟨n1, n2, mi, rfl, k5, k6, k7, hb17⟩; have hc17 := cellOf hb17; have hf17 := frozOf hb17; have hz17 := sizeOf hb17; (try simp at hz17))
    all_goals (obtain ⟨r1, r2, some3, hnb⟩ : ∃ r1 r2 some3, notBefI n1 n2 mi = ((r1, r2), some3) := ⟨_, _, _, rfl⟩)
    all_goals (go_wp2_with (fail); refine (c_impl_NotBefore _ _ _ _).mono ?_; rintro e W18 ⟨rfl, hb18⟩; have hc18 := cellOf hb18; have hf18 := frozOf hb18; have hz18 := sizeOf hb18; (try simp at hz18); simp only [hnb])
    all_goals (go_wp2_with (fail); refine (c_spec_NotBefore _ _ _ _).mono ?_; rintro e W19 ⟨rfl, hb19⟩; have hc19 := cellOf hb19; have hf19 := frozOf hb19; have hz19 := sizeOf hb19; (try simp at hz19); simp only [hnb])
    all_goals (go_wp2_with (fail))
    all_goals go_ret
    all_goals exact ⟨ret_bool (by simp), by (repeat' (first | exact Below.refl _ _ | assumption | refine Below.setCell ?_ ?_ _ | refine Below.drew ?_ | refine Below.alloc ?_ ?_ _ | refine Below.trans ?_ (Below.mono (by assumption) ?_) | (simp; done) | (simp; omega) | omega))⟩

end Go.Proofs.Ythlmeofjjmfpnaa
