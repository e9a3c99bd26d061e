import Derived.Test.YthlmeofjjmfpnaaS10
import Derived.Test.YthlmeofjjmfpnaaS11
import Derived.Test.YthlmeofjjmfpnaaS12
import Derived.Test.YthlmeofjjmfpnaaS2
import Derived.Test.YthlmeofjjmfpnaaS3
import Derived.Test.YthlmeofjjmfpnaaS4
namespace Go.Proofs.Ythlmeofjjmfpnaa
set_option linter.unusedSimpArgs false
set_option linter.unusedVariables false
open Go.RowKit

def FS11_5 (a b : Int) (A : Option Addr) (xs : List (Int × Int)) (cap : Nat) (c d : Int) (w W0 : World) (iq : Nat) (v : Value) (w1 : World) : Prop := match iq with
  | 0 => v = .agg #[.int .i64 (a), .int .i64 (b)]
  | 1 => v = .agg #[.int .i64 (a), .int .i64 (b)]
  | 2 => v = .slice A xs.length cap
  | 3 => FreshRow cLeg 2 39 W0.heap.size xs v w1
  | 4 => v = .agg #[.int .i64 (c), .int .i64 (d)]
  | 5 => v = .agg #[.int .i64 ((c)), .int .i64 ((d))]
  | 6 => v = .tuple #[.agg #[.int .i64 ((narrowV a b xs ((c)) ((d))).1.1.1), .int .i64 ((narrowV a b xs ((c)) ((d))).1.1.2)], .agg #[.int .i64 ((narrowV a b xs ((c)) ((d))).1.2.1), .int .i64 ((narrowV a b xs ((c)) ((d))).1.2.2)], .bool ((narrowV a b xs ((c)) ((d))).2)]
  | 7 => v = .tuple #[.agg #[.int .i64 ((narrowV a b xs ((c)) ((d))).1.1.1), .int .i64 ((narrowV a b xs ((c)) ((d))).1.1.2)], .agg #[.int .i64 ((narrowV a b xs ((c)) ((d))).1.2.1), .int .i64 ((narrowV a b xs ((c)) ((d))).1.2.2)], .bool ((narrowV a b xs ((c)) ((d))).2)]
  | 8 => v = .agg #[.int .i64 ((narrowV a b xs ((c)) ((d))).1.1.1), .int .i64 ((narrowV a b xs ((c)) ((d))).1.1.2)]
  | 9 => v = .agg #[.int .i64 ((narrowV a b xs ((c)) ((d))).1.2.1), .int .i64 ((narrowV a b xs ((c)) ((d))).1.2.2)]
  | 10 => v = .bool ((narrowV a b xs ((c)) ((d))).2)
  | 11 => Fresh W0.heap.size (.cells #[.int .i64 (0), .int .i64 (0)] 25) v w1
  | 12 => Fresh W0.heap.size (.cells #[.int .i64 (0), .int .i64 (0)] 25) v w1
  | _ => True

def FS11_7 (a b : Int) (A : Option Addr) (xs : List (Int × Int)) (cap : Nat) (c d : Int) (g : Nat) (w W0 : World) (iq : Nat) (v : Value) (w1 : World) : Prop := match iq with
  | 0 => v = .agg #[.int .i64 (a), .int .i64 (b)]
  | 1 => v = .agg #[.int .i64 (a), .int .i64 (b)]
  | 2 => v = .slice (some ⟨g, 0, none⟩) xs.length xs.length
  | 3 => v = .agg #[.int .i64 (c), .int .i64 (d)]
  | 4 => v = .agg #[.int .i64 ((c)), .int .i64 ((d))]
  | 5 => v = .tuple #[.agg #[.int .i64 ((narrowV a b xs ((c)) ((d))).1.1.1), .int .i64 ((narrowV a b xs ((c)) ((d))).1.1.2)], .agg #[.int .i64 ((narrowV a b xs ((c)) ((d))).1.2.1), .int .i64 ((narrowV a b xs ((c)) ((d))).1.2.2)], .bool ((narrowV a b xs ((c)) ((d))).2)]
  | 6 => v = .tuple #[.agg #[.int .i64 ((narrowV a b xs ((c)) ((d))).1.1.1), .int .i64 ((narrowV a b xs ((c)) ((d))).1.1.2)], .agg #[.int .i64 ((narrowV a b xs ((c)) ((d))).1.2.1), .int .i64 ((narrowV a b xs ((c)) ((d))).1.2.2)], .bool ((narrowV a b xs ((c)) ((d))).2)]
  | 7 => v = .agg #[.int .i64 ((narrowV a b xs ((c)) ((d))).1.1.1), .int .i64 ((narrowV a b xs ((c)) ((d))).1.1.2)]
  | 8 => v = .agg #[.int .i64 ((narrowV a b xs ((c)) ((d))).1.2.1), .int .i64 ((narrowV a b xs ((c)) ((d))).1.2.2)]
  | 9 => v = .bool ((narrowV a b xs ((c)) ((d))).2)
  | 10 => Fresh W0.heap.size (.cells #[.int .i64 (0), .int .i64 (0)] 25) v w1
  | 11 => Fresh W0.heap.size (.cells #[.int .i64 (0), .int .i64 (0)] 25) v w1
  | _ => True

set_option maxHeartbeats 8000000 in
theorem c_laws_FnExactNarrowVoyage (a b : Int) (A : Option Addr) (xs : List (Int × Int)) (cap : Nat) (c d : Int) (w : World) (hx : Rds cLeg 2 w A xs) (hn : xs.length ≤ 9223372036854775807) :
    Calls Try.prog 11 #[.agg #[.int .i64 (a), .int .i64 (b)], .slice A xs.length cap, .agg #[.int .i64 (c), .int .i64 (d)]] w fun e w' => e = .returned (.bool (true)) ∧ Below w.heap.size w w' := by
  by_cases hsz : xs.length ≤ 1048576
  rotate_left
  · go_enter Try.func11, Try.ntmps11
    go_wp2_with (go_at_call 32; refine (c_laws_szLegS _ _ _ _ _ (by omega) (by omega)).mono ?_; rintro e w' ⟨rfl, hb⟩; have hc := cellOf hb; have hf := frozOf hb; have hz := sizeOf hb; try simp at hz)
    all_goals go_ret
    all_goals exact ⟨rfl, by (repeat' (first | exact Below.refl _ _ | assumption | refine Below.setCell ?_ ?_ _ | refine Below.drew ?_ | refine Below.alloc ?_ ?_ _ | refine Below.trans ?_ (Below.mono (by assumption) ?_) | (simp; done) | (simp; omega) | omega))⟩
  have he := eqI_self
  go_enter Try.func11, Try.ntmps11
  go_wp2_with (first | (go_at_call 32; refine (c_laws_szLegS _ _ _ _ _ (by omega) (by omega)).mono ?_; rintro e w' ⟨rfl, hb⟩; have hc := cellOf hb; have hf := frozOf hb; have hz := sizeOf hb; try simp at hz) | (go_at_call 16; refine (c_laws_toInterval _ _ _ ).mono ?_; rintro e w' ⟨rfl, hb⟩; have hc := cellOf hb; have hf := frozOf hb; have hz := sizeOf hb; try simp at hz) | (go_at_call 34; refine (c_laws_toLegS _ _ _ _ (by first | assumption | exact Rds.below (by assumption) (by (repeat' (first | exact Below.refl _ _ | assumption | refine Below.setCell ?_ ?_ _ | refine Below.drew ?_ | refine Below.alloc ?_ ?_ _ | refine Below.trans ?_ (Below.mono (by assumption) ?_) | (simp; done) | (simp; omega) | omega)))) (by omega)).mono ?_; rintro e w' ⟨g, rfl, hg, ho, hb⟩; have hr := ho.rds; have hlo := ho.lt; have HO := hid ho; clear ho; have hc := cellOf hb; have hf := frozOf hb; have hz := sizeOf hb; try simp at hz) | (go_at_call 38; refine (c_impl_NarrowVoyage _ _ _ _ _ _ _ _ (by first | assumption | exact Rds.below (by assumption) (by (repeat' (first | exact Below.refl _ _ | assumption | refine Below.setCell ?_ ?_ _ | refine Below.drew ?_ | refine Below.alloc ?_ ?_ _ | refine Below.trans ?_ (Below.mono (by assumption) ?_) | (simp; done) | (simp; omega) | omega)))) (by omega) ).mono ?_; rintro e w' ⟨rfl, hb⟩; have hc := cellOf hb; have hf := frozOf hb; have hz := sizeOf hb; try simp at hz) | (go_at_call 37; refine (c_spec_NarrowVoyage _ _ _ _ _ _ _ _ (by first | assumption | exact Rds.below (by assumption) (by (repeat' (first | exact Below.refl _ _ | assumption | refine Below.setCell ?_ ?_ _ | refine Below.drew ?_ | refine Below.alloc ?_ ?_ _ | refine Below.trans ?_ (Below.mono (by assumption) ?_) | (simp; done) | (simp; omega) | omega)))) (by omega) ).mono ?_; rintro e w' ⟨rfl, hb⟩; have hc := cellOf hb; have hf := frozOf hb; have hz := sizeOf hb; try simp at hz) | (go_at_call 22; refine (c_laws_eqInterval _ _ _ _ _ ).mono ?_; rintro e w' ⟨rfl, hb⟩; have hc := cellOf hb; have hf := frozOf hb; have hz := sizeOf hb; try simp at hz) | (go_at_call 36; refine (c_laws_eqLegS _ _ _ _ _ _ _ (by first | assumption | exact Rds.below (by assumption) (by (repeat' (first | exact Below.refl _ _ | assumption | refine Below.setCell ?_ ?_ _ | refine Below.drew ?_ | refine Below.alloc ?_ ?_ _ | refine Below.trans ?_ (Below.mono (by assumption) ?_) | (simp; done) | (simp; omega) | omega)))) (by first | assumption | exact Rds.below (by assumption) (by (repeat' (first | exact Below.refl _ _ | assumption | refine Below.setCell ?_ ?_ _ | refine Below.drew ?_ | refine Below.alloc ?_ ?_ _ | refine Below.trans ?_ (Below.mono (by assumption) ?_) | (simp; done) | (simp; omega) | omega)))) (by omega) (by omega) ).mono ?_; rintro e w' ⟨rfl, hb⟩; have hc := cellOf hb; have hf := frozOf hb; have hz := sizeOf hb; try simp at hz))
  refine wp_region_w (n := 13) [9, 10] [3, 11, 12] (FS11_5 a b A xs cap c d w) rfl (by kernel_rfl) (fun _ _ d _ _ h => by cases d <;> exact h) ?_ ?_ ?_ ?_ ?_ ?_
  · intro iq
    match iq with
    | 0 | 1 | 2 | 4 | 5 | 6 | 7 | 8 | 9 | 10 => exact Stable.const _
    | 3 => exact FreshRow.stable
    | 11 => exact Stable.fresh _ _
    | 12 => exact Stable.fresh _ _
    | n + 13 => exact Stable.const _
  · intro iq hi v w1 hF
    have hcase : iq = 3 ∨ iq = 11 ∨ iq = 12 := by simpa using hi
    rcases hcase with rfl | rfl | rfl
    · exact FreshRow.ltv hF
    · exact Fresh.ltv hF
    · exact Fresh.ltv hF
  · intro iq hi
    have hcase : iq = 9 ∨ iq = 10 := by simpa using hi
    rcases hcase with rfl | rfl
    all_goals rfl
  · intro iq o hi hl ho vals w1 hb1 hf
    match iq, hi with
    | 9, _ =>
      injection ho with ho
      subst ho
      clear hl
      simp only [fillA, List.take, List.drop, put_none, Act.put, List.setIfInBounds_toArray, List.set_cons_zero, List.set_cons_succ, Nat.reduceAdd]
      have f7 := hf 7 (by decide) (by kernel_rfl)
      generalize vals 7 = v7 at *
      subst f7
      exact ⟨_, rfl, .inl ⟨rfl, fun _ => rfl⟩⟩
    | 10, _ =>
      injection ho with ho
      subst ho
      clear hl
      simp only [fillA, List.take, List.drop, put_none, Act.put, List.setIfInBounds_toArray, List.set_cons_zero, List.set_cons_succ, Nat.reduceAdd]
      have f7 := hf 7 (by decide) (by kernel_rfl)
      generalize vals 7 = v7 at *
      subst f7
      exact ⟨_, rfl, .inl ⟨rfl, fun _ => rfl⟩⟩
  · intro iq o hi hl ho vals w1 hb1 hf
    match iq, hi with
    | 0, _ =>
      injection ho with ho
      subst ho
      clear hl
      simp only [fillA, List.take, List.drop, put_none, Act.put, List.setIfInBounds_toArray, List.set_cons_zero, List.set_cons_succ, Nat.reduceAdd]
      clear hf
      have hc1 := cellOf hb1
      have hf1 := frozOf hb1
      have hz1 := sizeOf hb1
      try simp at hz1
      go_wp2_with (fail)
      exact RQ.mk rfl ⟨(by first | rfl | (simp [FS11_5]; done) | (simp [FS11_5, *]; done) | (simp [FS11_5, gotV]; done) | (simp [FS11_5, gotV]; omega)), fun h => absurd h (by decide)⟩ (by (repeat' (first | exact Below.refl _ _ | assumption | refine Below.setCell ?_ ?_ _ | refine Below.drew ?_ | refine Below.alloc ?_ ?_ _ | refine Below.trans ?_ (Below.mono (by assumption) ?_) | (simp; done) | (simp; omega) | omega)))
    | 1, _ =>
      injection ho with ho
      subst ho
      clear hl
      simp only [fillA, List.take, List.drop, put_none, Act.put, List.setIfInBounds_toArray, List.set_cons_zero, List.set_cons_succ, Nat.reduceAdd]
      have f0 := hf 0 (by decide) (by kernel_rfl)
      generalize vals 0 = v0 at *
      subst f0
      clear hf
      have hc1 := cellOf hb1
      have hf1 := frozOf hb1
      have hz1 := sizeOf hb1
      try simp at hz1
      go_wp2_with (first | (go_at_call 16; refine (c_laws_toInterval _ _ _ ).mono ?_; rintro e w' ⟨rfl, hb⟩; have hc := cellOf hb; have hf := frozOf hb; have hz := sizeOf hb; try simp at hz))
      exact RQ.mk rfl ⟨(by first | rfl | (simp [FS11_5]; done) | (simp [FS11_5, *]; done) | (simp [FS11_5, gotV]; done) | (simp [FS11_5, gotV]; omega)), fun h => absurd h (by decide)⟩ (by (repeat' (first | exact Below.refl _ _ | assumption | refine Below.setCell ?_ ?_ _ | refine Below.drew ?_ | refine Below.alloc ?_ ?_ _ | refine Below.trans ?_ (Below.mono (by assumption) ?_) | (simp; done) | (simp; omega) | omega)))
    | 2, _ =>
      injection ho with ho
      subst ho
      clear hl
      simp only [fillA, List.take, List.drop, put_none, Act.put, List.setIfInBounds_toArray, List.set_cons_zero, List.set_cons_succ, Nat.reduceAdd]
      clear hf
      have hc1 := cellOf hb1
      have hf1 := frozOf hb1
      have hz1 := sizeOf hb1
      try simp at hz1
      go_wp2_with (fail)
      exact RQ.mk rfl ⟨(by first | rfl | (simp [FS11_5]; done) | (simp [FS11_5, *]; done) | (simp [FS11_5, gotV]; done) | (simp [FS11_5, gotV]; omega)), fun h => absurd h (by decide)⟩ (by (repeat' (first | exact Below.refl _ _ | assumption | refine Below.setCell ?_ ?_ _ | refine Below.drew ?_ | refine Below.alloc ?_ ?_ _ | refine Below.trans ?_ (Below.mono (by assumption) ?_) | (simp; done) | (simp; omega) | omega)))
    | 3, _ =>
      injection ho with ho
      subst ho
      clear hl
      simp only [fillA, List.take, List.drop, put_none, Act.put, List.setIfInBounds_toArray, List.set_cons_zero, List.set_cons_succ, Nat.reduceAdd]
      have f2 := hf 2 (by decide) (by kernel_rfl)
      generalize vals 2 = v2 at *
      subst f2
      have f1 := hf 1 (by decide) (by kernel_rfl)
      generalize vals 1 = v1 at *
      subst f1
      clear hf
      have hc1 := cellOf hb1
      have hf1 := frozOf hb1
      have hz1 := sizeOf hb1
      try simp at hz1
      go_wp2_with (first | (go_at_call 34; refine (c_laws_toLegS _ _ _ _ (by first | assumption | exact Rds.below (by assumption) (by (repeat' (first | exact Below.refl _ _ | assumption | refine Below.setCell ?_ ?_ _ | refine Below.drew ?_ | refine Below.alloc ?_ ?_ _ | refine Below.trans ?_ (Below.mono (by assumption) ?_) | (simp; done) | (simp; omega) | omega)))) (by omega)).mono ?_; rintro e w' ⟨g, rfl, hg, ho, hb⟩; have hr := ho.rds; have hlo := ho.lt; have HO := hid ho; clear ho; have hc := cellOf hb; have hf := frozOf hb; have hz := sizeOf hb; try simp at hz))
      exact RQ.mk rfl ⟨⟨_, rfl, (by first | omega | (simp at *; omega)), HO.out⟩, fun _ => hg⟩ (by (repeat' (first | exact Below.refl _ _ | assumption | refine Below.setCell ?_ ?_ _ | refine Below.drew ?_ | refine Below.alloc ?_ ?_ _ | refine Below.trans ?_ (Below.mono (by assumption) ?_) | (simp; done) | (simp; omega) | omega)))
    | 4, _ =>
      injection ho with ho
      subst ho
      clear hl
      simp only [fillA, List.take, List.drop, put_none, Act.put, List.setIfInBounds_toArray, List.set_cons_zero, List.set_cons_succ, Nat.reduceAdd]
      clear hf
      have hc1 := cellOf hb1
      have hf1 := frozOf hb1
      have hz1 := sizeOf hb1
      try simp at hz1
      go_wp2_with (fail)
      exact RQ.mk rfl ⟨(by first | rfl | (simp [FS11_5]; done) | (simp [FS11_5, *]; done) | (simp [FS11_5, gotV]; done) | (simp [FS11_5, gotV]; omega)), fun h => absurd h (by decide)⟩ (by (repeat' (first | exact Below.refl _ _ | assumption | refine Below.setCell ?_ ?_ _ | refine Below.drew ?_ | refine Below.alloc ?_ ?_ _ | refine Below.trans ?_ (Below.mono (by assumption) ?_) | (simp; done) | (simp; omega) | omega)))
    | 5, _ =>
      injection ho with ho
      subst ho
      clear hl
      simp only [fillA, List.take, List.drop, put_none, Act.put, List.setIfInBounds_toArray, List.set_cons_zero, List.set_cons_succ, Nat.reduceAdd]
      have f4 := hf 4 (by decide) (by kernel_rfl)
      generalize vals 4 = v4 at *
      subst f4
      have f3 := hf 3 (by decide) (by kernel_rfl)
      generalize vals 3 = v3 at *
      obtain ⟨g1, rfl, hg1a, hg1b⟩ := f3
      try simp at hg1a
      have hg1r := hg1b.rds
      have hg1l := hg1b.lt
      clear hg1b
      clear hf
      have hc1 := cellOf hb1
      have hf1 := frozOf hb1
      have hz1 := sizeOf hb1
      try simp at hz1
      go_wp2_with (first | (go_at_call 16; refine (c_laws_toInterval _ _ _ ).mono ?_; rintro e w' ⟨rfl, hb⟩; have hc := cellOf hb; have hf := frozOf hb; have hz := sizeOf hb; try simp at hz))
      exact RQ.mk rfl ⟨(by first | rfl | (simp [FS11_5]; done) | (simp [FS11_5, *]; done) | (simp [FS11_5, gotV]; done) | (simp [FS11_5, gotV]; omega)), fun h => absurd h (by decide)⟩ (by (repeat' (first | exact Below.refl _ _ | assumption | refine Below.setCell ?_ ?_ _ | refine Below.drew ?_ | refine Below.alloc ?_ ?_ _ | refine Below.trans ?_ (Below.mono (by assumption) ?_) | (simp; done) | (simp; omega) | omega)))
    | 6, _ =>
      injection ho with ho
      subst ho
      clear hl
      simp only [fillA, List.take, List.drop, put_none, Act.put, List.setIfInBounds_toArray, List.set_cons_zero, List.set_cons_succ, Nat.reduceAdd]
      have f1 := hf 1 (by decide) (by kernel_rfl)
      generalize vals 1 = v1 at *
      subst f1
      have f3 := hf 3 (by decide) (by kernel_rfl)
      generalize vals 3 = v3 at *
      obtain ⟨g1, rfl, hg1a, hg1b⟩ := f3
      try simp at hg1a
      have hg1r := hg1b.rds
      have hg1l := hg1b.lt
      clear hg1b
      have f5 := hf 5 (by decide) (by kernel_rfl)
      generalize vals 5 = v5 at *
      subst f5
      clear hf
      have hc1 := cellOf hb1
      have hf1 := frozOf hb1
      have hz1 := sizeOf hb1
      try simp at hz1
      go_wp2_with (first | (go_at_call 37; refine (c_spec_NarrowVoyage _ _ _ _ _ _ _ _ (by first | assumption | exact Rds.below (by assumption) (by (repeat' (first | exact Below.refl _ _ | assumption | refine Below.setCell ?_ ?_ _ | refine Below.drew ?_ | refine Below.alloc ?_ ?_ _ | refine Below.trans ?_ (Below.mono (by assumption) ?_) | (simp; done) | (simp; omega) | omega)))) (by omega) ).mono ?_; rintro e w' ⟨rfl, hb⟩; have hc := cellOf hb; have hf := frozOf hb; have hz := sizeOf hb; try simp at hz))
      exact RQ.mk rfl ⟨(by first | rfl | (simp [FS11_5]; done) | (simp [FS11_5, *]; done) | (simp [FS11_5, gotV]; done) | (simp [FS11_5, gotV]; omega)), fun h => absurd h (by decide)⟩ (by (repeat' (first | exact Below.refl _ _ | assumption | refine Below.setCell ?_ ?_ _ | refine Below.drew ?_ | refine Below.alloc ?_ ?_ _ | refine Below.trans ?_ (Below.mono (by assumption) ?_) | (simp; done) | (simp; omega) | omega)))
    | 7, _ =>
      injection ho with ho
      subst ho
      clear hl
      simp only [fillA, List.take, List.drop, put_none, Act.put, List.setIfInBounds_toArray, List.set_cons_zero, List.set_cons_succ, Nat.reduceAdd]
      have f6 := hf 6 (by decide) (by kernel_rfl)
      generalize vals 6 = v6 at *
      subst f6
      clear hf
      have hc1 := cellOf hb1
      have hf1 := frozOf hb1
      have hz1 := sizeOf hb1
      try simp at hz1
      go_wp2_with (fail)
      exact RQ.mk rfl ⟨(by first | rfl | (simp [FS11_5]; done) | (simp [FS11_5, *]; done) | (simp [FS11_5, gotV]; done) | (simp [FS11_5, gotV]; omega)), fun h => absurd h (by decide)⟩ (by (repeat' (first | exact Below.refl _ _ | assumption | refine Below.setCell ?_ ?_ _ | refine Below.drew ?_ | refine Below.alloc ?_ ?_ _ | refine Below.trans ?_ (Below.mono (by assumption) ?_) | (simp; done) | (simp; omega) | omega)))
    | 8, _ =>
      injection ho with ho
      subst ho
      clear hl
      simp only [fillA, List.take, List.drop, put_none, Act.put, List.setIfInBounds_toArray, List.set_cons_zero, List.set_cons_succ, Nat.reduceAdd]
      have f7 := hf 7 (by decide) (by kernel_rfl)
      generalize vals 7 = v7 at *
      subst f7
      clear hf
      have hc1 := cellOf hb1
      have hf1 := frozOf hb1
      have hz1 := sizeOf hb1
      try simp at hz1
      go_wp2_with (fail)
      exact RQ.mk rfl ⟨(by first | rfl | (simp [FS11_5]; done) | (simp [FS11_5, *]; done) | (simp [FS11_5, gotV]; done) | (simp [FS11_5, gotV]; omega)), fun h => absurd h (by decide)⟩ (by (repeat' (first | exact Below.refl _ _ | assumption | refine Below.setCell ?_ ?_ _ | refine Below.drew ?_ | refine Below.alloc ?_ ?_ _ | refine Below.trans ?_ (Below.mono (by assumption) ?_) | (simp; done) | (simp; omega) | omega)))
    | 9, _ => exact absurd hl (by decide)
    | 10, _ => exact absurd hl (by decide)
    | 11, _ =>
      injection ho with ho
      subst ho
      clear hl
      simp only [fillA, List.take, List.drop, put_none, Act.put, List.setIfInBounds_toArray, List.set_cons_zero, List.set_cons_succ, Nat.reduceAdd]
      clear hf
      have hc1 := cellOf hb1
      have hf1 := frozOf hb1
      have hz1 := sizeOf hb1
      try simp at hz1
      go_wp2_with (fail)
      exact RQ.mk rfl ⟨⟨_, rfl, (by first | omega | (simp; omega)), heap_alloc_new _ _⟩, fun _ => Nat.le_refl _⟩ (by (repeat' (first | exact Below.refl _ _ | assumption | refine Below.setCell ?_ ?_ _ | refine Below.drew ?_ | refine Below.alloc ?_ ?_ _ | refine Below.trans ?_ (Below.mono (by assumption) ?_) | (simp; done) | (simp; omega) | omega)))
    | 12, _ =>
      injection ho with ho
      subst ho
      clear hl
      simp only [fillA, List.take, List.drop, put_none, Act.put, List.setIfInBounds_toArray, List.set_cons_zero, List.set_cons_succ, Nat.reduceAdd]
      clear hf
      have hc1 := cellOf hb1
      have hf1 := frozOf hb1
      have hz1 := sizeOf hb1
      try simp at hz1
      go_wp2_with (fail)
      exact RQ.mk rfl ⟨⟨_, rfl, (by first | omega | (simp; omega)), heap_alloc_new _ _⟩, fun _ => Nat.le_refl _⟩ (by (repeat' (first | exact Below.refl _ _ | assumption | refine Below.setCell ?_ ?_ _ | refine Below.drew ?_ | refine Below.alloc ?_ ?_ _ | refine Below.trans ?_ (Below.mono (by assumption) ?_) | (simp; done) | (simp; omega) | omega)))
  · intro vals w1 hb1 hf hd
    simp only [fillA, List.take, List.drop, put_none, Act.put, List.setIfInBounds_toArray, List.set_cons_zero, List.set_cons_succ, Nat.reduceAdd]
    have hd3_11 := hd 3 11 (by decide) (by decide) (by decide) (by decide) (by decide)
    have hd3_12 := hd 3 12 (by decide) (by decide) (by decide) (by decide) (by decide)
    have hd11_12 := hd 11 12 (by decide) (by decide) (by decide) (by decide) (by decide)
    clear hd
    have f0 := hf 0 (by decide)
    generalize vals 0 = v0 at *
    subst f0
    have f1 := hf 1 (by decide)
    generalize vals 1 = v1 at *
    subst f1
    have f2 := hf 2 (by decide)
    generalize vals 2 = v2 at *
    subst f2
    have f3 := hf 3 (by decide)
    generalize vals 3 = v3 at *
    obtain ⟨g1, rfl, hg1a, hg1b⟩ := f3
    try simp at hg1a
    have hg1r := hg1b.rds
    have hg1l := hg1b.lt
    have Hg1 := hid hg1b
    clear hg1b
    have f4 := hf 4 (by decide)
    generalize vals 4 = v4 at *
    subst f4
    have f5 := hf 5 (by decide)
    generalize vals 5 = v5 at *
    subst f5
    have f6 := hf 6 (by decide)
    generalize vals 6 = v6 at *
    subst f6
    have f7 := hf 7 (by decide)
    generalize vals 7 = v7 at *
    subst f7
    have f8 := hf 8 (by decide)
    generalize vals 8 = v8 at *
    subst f8
    have f9 := hf 9 (by decide)
    generalize vals 9 = v9 at *
    subst f9
    have f10 := hf 10 (by decide)
    generalize vals 10 = v10 at *
    subst f10
    have f11 := hf 11 (by decide)
    generalize vals 11 = v11 at *
    obtain ⟨g2, rfl, hg2a, hg2b⟩ := f11
    try simp at hg2a
    have f12 := hf 12 (by decide)
    generalize vals 12 = v12 at *
    obtain ⟨g3, rfl, hg3a, hg3b⟩ := f12
    try simp at hg3a
    clear hf
    simp only [blkV] at hd3_11 hd3_12 hd11_12
    have hc1 := cellOf hb1
    have hf1 := frozOf hb1
    have hz1 := sizeOf hb1
    try simp at hz1
    have hg2c := Fresh.lt hg2b
    have hg2d := Fresh.cell hg2b
    have hg2e := Fresh.froz hg2b
    have hg2f := Fresh.far hg2b
    have hg2g := Fresh.farz hg2b
    clear hg2b
    have hg3c := Fresh.lt hg3b
    have hg3d := Fresh.cell hg3b
    have hg3e := Fresh.froz hg3b
    have hg3f := Fresh.far hg3b
    have hg3g := Fresh.farz hg3b
    clear hg3b
    go_wp2_with (first | (go_at_call 32; refine (c_laws_szLegS _ _ _ _ _ (by omega) (by omega)).mono ?_; rintro e w' ⟨rfl, hb⟩; have hc := cellOf hb; have hf := frozOf hb; have hz := sizeOf hb; try simp at hz) | (go_at_call 16; refine (c_laws_toInterval _ _ _ ).mono ?_; rintro e w' ⟨rfl, hb⟩; have hc := cellOf hb; have hf := frozOf hb; have hz := sizeOf hb; try simp at hz) | (go_at_call 34; refine (c_laws_toLegS _ _ _ _ (by first | assumption | exact Rds.below (by assumption) (by (repeat' (first | exact Below.refl _ _ | assumption | refine Below.setCell ?_ ?_ _ | refine Below.drew ?_ | refine Below.alloc ?_ ?_ _ | refine Below.trans ?_ (Below.mono (by assumption) ?_) | (simp; done) | (simp; omega) | omega)))) (by omega)).mono ?_; rintro e w' ⟨g, rfl, hg, ho, hb⟩; have hr := ho.rds; have hlo := ho.lt; have HO := hid ho; clear ho; have hc := cellOf hb; have hf := frozOf hb; have hz := sizeOf hb; try simp at hz) | (go_at_call 38; refine (c_impl_NarrowVoyage _ _ _ _ _ _ _ _ (by first | assumption | exact Rds.below (by assumption) (by (repeat' (first | exact Below.refl _ _ | assumption | refine Below.setCell ?_ ?_ _ | refine Below.drew ?_ | refine Below.alloc ?_ ?_ _ | refine Below.trans ?_ (Below.mono (by assumption) ?_) | (simp; done) | (simp; omega) | omega)))) (by omega) ).mono ?_; rintro e w' ⟨rfl, hb⟩; have hc := cellOf hb; have hf := frozOf hb; have hz := sizeOf hb; try simp at hz) | (go_at_call 37; refine (c_spec_NarrowVoyage _ _ _ _ _ _ _ _ (by first | assumption | exact Rds.below (by assumption) (by (repeat' (first | exact Below.refl _ _ | assumption | refine Below.setCell ?_ ?_ _ | refine Below.drew ?_ | refine Below.alloc ?_ ?_ _ | refine Below.trans ?_ (Below.mono (by assumption) ?_) | (simp; done) | (simp; omega) | omega)))) (by omega) ).mono ?_; rintro e w' ⟨rfl, hb⟩; have hc := cellOf hb; have hf := frozOf hb; have hz := sizeOf hb; try simp at hz) | (go_at_call 22; refine (c_laws_eqInterval _ _ _ _ _ ).mono ?_; rintro e w' ⟨rfl, hb⟩; have hc := cellOf hb; have hf := frozOf hb; have hz := sizeOf hb; try simp at hz) | (go_at_call 36; refine (c_laws_eqLegS _ _ _ _ _ _ _ (by first | assumption | exact Rds.below (by assumption) (by (repeat' (first | exact Below.refl _ _ | assumption | refine Below.setCell ?_ ?_ _ | refine Below.drew ?_ | refine Below.alloc ?_ ?_ _ | refine Below.trans ?_ (Below.mono (by assumption) ?_) | (simp; done) | (simp; omega) | omega)))) (by first | assumption | exact Rds.below (by assumption) (by (repeat' (first | exact Below.refl _ _ | assumption | refine Below.setCell ?_ ?_ _ | refine Below.drew ?_ | refine Below.alloc ?_ ?_ _ | refine Below.trans ?_ (Below.mono (by assumption) ?_) | (simp; done) | (simp; omega) | omega)))) (by omega) (by omega) ).mono ?_; rintro e w' ⟨rfl, hb⟩; have hc := cellOf hb; have hf := frozOf hb; have hz := sizeOf hb; try simp at hz))
    refine wp_region_w (n := 12) [8, 9] [10, 11] (FS11_7 a b A xs cap c d g w) rfl (by kernel_rfl) (fun _ _ d _ _ h => by cases d <;> exact h) ?_ ?_ ?_ ?_ ?_ ?_
    · intro iq
      match iq with
      | 0 | 1 | 2 | 3 | 4 | 5 | 6 | 7 | 8 | 9 => exact Stable.const _
      | 10 => exact Stable.fresh _ _
      | 11 => exact Stable.fresh _ _
      | n + 12 => exact Stable.const _
    · intro iq hi v w1 hF
      have hcase : iq = 10 ∨ iq = 11 := by simpa using hi
      rcases hcase with rfl | rfl
      · exact Fresh.ltv hF
      · exact Fresh.ltv hF
    · intro iq hi
      have hcase : iq = 8 ∨ iq = 9 := by simpa using hi
      rcases hcase with rfl | rfl
      all_goals rfl
    · intro iq o hi hl ho vals w1 hb1 hf
      match iq, hi with
      | 8, _ =>
        injection ho with ho
        subst ho
        clear hl
        simp only [fillA, List.take, List.drop, put_none, Act.put, List.setIfInBounds_toArray, List.set_cons_zero, List.set_cons_succ, Nat.reduceAdd]
        have f6 := hf 6 (by decide) (by kernel_rfl)
        generalize vals 6 = v6 at *
        subst f6
        exact ⟨_, rfl, .inl ⟨rfl, fun _ => rfl⟩⟩
      | 9, _ =>
        injection ho with ho
        subst ho
        clear hl
        simp only [fillA, List.take, List.drop, put_none, Act.put, List.setIfInBounds_toArray, List.set_cons_zero, List.set_cons_succ, Nat.reduceAdd]
        have f6 := hf 6 (by decide) (by kernel_rfl)
        generalize vals 6 = v6 at *
        subst f6
        exact ⟨_, rfl, .inl ⟨rfl, fun _ => rfl⟩⟩
    · intro iq o hi hl ho vals w1 hb1 hf
      match iq, hi with
      | 0, _ =>
        injection ho with ho
        subst ho
        clear hl
        simp only [fillA, List.take, List.drop, put_none, Act.put, List.setIfInBounds_toArray, List.set_cons_zero, List.set_cons_succ, Nat.reduceAdd]
        clear hf
        have hc1 := cellOf hb1
        have hf1 := frozOf hb1
        have hz1 := sizeOf hb1
        try simp at hz1
        go_wp2_with (fail)
        exact RQ.mk rfl ⟨(by first | rfl | (simp [FS11_7]; done) | (simp [FS11_7, *]; done) | (simp [FS11_7, gotV]; done) | (simp [FS11_7, gotV]; omega)), fun h => absurd h (by decide)⟩ (by (repeat' (first | exact Below.refl _ _ | assumption | refine Below.setCell ?_ ?_ _ | refine Below.drew ?_ | refine Below.alloc ?_ ?_ _ | refine Below.trans ?_ (Below.mono (by assumption) ?_) | (simp; done) | (simp; omega) | omega)))
      | 1, _ =>
        injection ho with ho
        subst ho
        clear hl
        simp only [fillA, List.take, List.drop, put_none, Act.put, List.setIfInBounds_toArray, List.set_cons_zero, List.set_cons_succ, Nat.reduceAdd]
        have f0 := hf 0 (by decide) (by kernel_rfl)
        generalize vals 0 = v0 at *
        subst f0
        clear hf
        have hc1 := cellOf hb1
        have hf1 := frozOf hb1
        have hz1 := sizeOf hb1
        try simp at hz1
        go_wp2_with (first | (go_at_call 16; refine (c_laws_toInterval _ _ _ ).mono ?_; rintro e w' ⟨rfl, hb⟩; have hc := cellOf hb; have hf := frozOf hb; have hz := sizeOf hb; try simp at hz))
        exact RQ.mk rfl ⟨(by first | rfl | (simp [FS11_7]; done) | (simp [FS11_7, *]; done) | (simp [FS11_7, gotV]; done) | (simp [FS11_7, gotV]; omega)), fun h => absurd h (by decide)⟩ (by (repeat' (first | exact Below.refl _ _ | assumption | refine Below.setCell ?_ ?_ _ | refine Below.drew ?_ | refine Below.alloc ?_ ?_ _ | refine Below.trans ?_ (Below.mono (by assumption) ?_) | (simp; done) | (simp; omega) | omega)))
      | 2, _ =>
        injection ho with ho
        subst ho
        clear hl
        simp only [fillA, List.take, List.drop, put_none, Act.put, List.setIfInBounds_toArray, List.set_cons_zero, List.set_cons_succ, Nat.reduceAdd]
        clear hf
        have hc1 := cellOf hb1
        have hf1 := frozOf hb1
        have hz1 := sizeOf hb1
        try simp at hz1
        go_wp2_with (fail)
        exact RQ.mk rfl ⟨(by first | rfl | (simp [FS11_7]; done) | (simp [FS11_7, *]; done) | (simp [FS11_7, gotV]; done) | (simp [FS11_7, gotV]; omega)), fun h => absurd h (by decide)⟩ (by (repeat' (first | exact Below.refl _ _ | assumption | refine Below.setCell ?_ ?_ _ | refine Below.drew ?_ | refine Below.alloc ?_ ?_ _ | refine Below.trans ?_ (Below.mono (by assumption) ?_) | (simp; done) | (simp; omega) | omega)))
      | 3, _ =>
        injection ho with ho
        subst ho
        clear hl
        simp only [fillA, List.take, List.drop, put_none, Act.put, List.setIfInBounds_toArray, List.set_cons_zero, List.set_cons_succ, Nat.reduceAdd]
        clear hf
        have hc1 := cellOf hb1
        have hf1 := frozOf hb1
        have hz1 := sizeOf hb1
        try simp at hz1
        go_wp2_with (fail)
        exact RQ.mk rfl ⟨(by first | rfl | (simp [FS11_7]; done) | (simp [FS11_7, *]; done) | (simp [FS11_7, gotV]; done) | (simp [FS11_7, gotV]; omega)), fun h => absurd h (by decide)⟩ (by (repeat' (first | exact Below.refl _ _ | assumption | refine Below.setCell ?_ ?_ _ | refine Below.drew ?_ | refine Below.alloc ?_ ?_ _ | refine Below.trans ?_ (Below.mono (by assumption) ?_) | (simp; done) | (simp; omega) | omega)))
      | 4, _ =>
        injection ho with ho
        subst ho
        clear hl
        simp only [fillA, List.take, List.drop, put_none, Act.put, List.setIfInBounds_toArray, List.set_cons_zero, List.set_cons_succ, Nat.reduceAdd]
        have f3 := hf 3 (by decide) (by kernel_rfl)
        generalize vals 3 = v3 at *
        subst f3
        have f1 := hf 1 (by decide) (by kernel_rfl)
        generalize vals 1 = v1 at *
        subst f1
        clear hf
        have hc1 := cellOf hb1
        have hf1 := frozOf hb1
        have hz1 := sizeOf hb1
        try simp at hz1
        go_wp2_with (first | (go_at_call 16; refine (c_laws_toInterval _ _ _ ).mono ?_; rintro e w' ⟨rfl, hb⟩; have hc := cellOf hb; have hf := frozOf hb; have hz := sizeOf hb; try simp at hz))
        exact RQ.mk rfl ⟨(by first | rfl | (simp [FS11_7]; done) | (simp [FS11_7, *]; done) | (simp [FS11_7, gotV]; done) | (simp [FS11_7, gotV]; omega)), fun h => absurd h (by decide)⟩ (by (repeat' (first | exact Below.refl _ _ | assumption | refine Below.setCell ?_ ?_ _ | refine Below.drew ?_ | refine Below.alloc ?_ ?_ _ | refine Below.trans ?_ (Below.mono (by assumption) ?_) | (simp; done) | (simp; omega) | omega)))
      | 5, _ =>
        injection ho with ho
        subst ho
        clear hl
        simp only [fillA, List.take, List.drop, put_none, Act.put, List.setIfInBounds_toArray, List.set_cons_zero, List.set_cons_succ, Nat.reduceAdd]
        have f1 := hf 1 (by decide) (by kernel_rfl)
        generalize vals 1 = v1 at *
        subst f1
        have f2 := hf 2 (by decide) (by kernel_rfl)
        generalize vals 2 = v2 at *
        subst f2
        have f4 := hf 4 (by decide) (by kernel_rfl)
        generalize vals 4 = v4 at *
        subst f4
        clear hf
        have hc1 := cellOf hb1
        have hf1 := frozOf hb1
        have hz1 := sizeOf hb1
        try simp at hz1
        go_wp2_with (first | (go_at_call 38; refine (c_impl_NarrowVoyage _ _ _ _ _ _ _ _ (by first | assumption | exact Rds.below (by assumption) (by (repeat' (first | exact Below.refl _ _ | assumption | refine Below.setCell ?_ ?_ _ | refine Below.drew ?_ | refine Below.alloc ?_ ?_ _ | refine Below.trans ?_ (Below.mono (by assumption) ?_) | (simp; done) | (simp; omega) | omega)))) (by omega) ).mono ?_; rintro e w' ⟨rfl, hb⟩; have hc := cellOf hb; have hf := frozOf hb; have hz := sizeOf hb; try simp at hz))
        exact RQ.mk rfl ⟨(by first | rfl | (simp [FS11_7]; done) | (simp [FS11_7, *]; done) | (simp [FS11_7, gotV]; done) | (simp [FS11_7, gotV]; omega)), fun h => absurd h (by decide)⟩ (by (repeat' (first | exact Below.refl _ _ | assumption | refine Below.setCell ?_ ?_ _ | refine Below.drew ?_ | refine Below.alloc ?_ ?_ _ | refine Below.trans ?_ (Below.mono (by assumption) ?_) | (simp; done) | (simp; omega) | omega)))
      | 6, _ =>
        injection ho with ho
        subst ho
        clear hl
        simp only [fillA, List.take, List.drop, put_none, Act.put, List.setIfInBounds_toArray, List.set_cons_zero, List.set_cons_succ, Nat.reduceAdd]
        have f5 := hf 5 (by decide) (by kernel_rfl)
        generalize vals 5 = v5 at *
        subst f5
        clear hf
        have hc1 := cellOf hb1
        have hf1 := frozOf hb1
        have hz1 := sizeOf hb1
        try simp at hz1
        go_wp2_with (fail)
        exact RQ.mk rfl ⟨(by first | rfl | (simp [FS11_7]; done) | (simp [FS11_7, *]; done) | (simp [FS11_7, gotV]; done) | (simp [FS11_7, gotV]; omega)), fun h => absurd h (by decide)⟩ (by (repeat' (first | exact Below.refl _ _ | assumption | refine Below.setCell ?_ ?_ _ | refine Below.drew ?_ | refine Below.alloc ?_ ?_ _ | refine Below.trans ?_ (Below.mono (by assumption) ?_) | (simp; done) | (simp; omega) | omega)))
      | 7, _ =>
        injection ho with ho
        subst ho
        clear hl
        simp only [fillA, List.take, List.drop, put_none, Act.put, List.setIfInBounds_toArray, List.set_cons_zero, List.set_cons_succ, Nat.reduceAdd]
        have f6 := hf 6 (by decide) (by kernel_rfl)
        generalize vals 6 = v6 at *
        subst f6
        clear hf
        have hc1 := cellOf hb1
        have hf1 := frozOf hb1
        have hz1 := sizeOf hb1
        try simp at hz1
        go_wp2_with (fail)
        exact RQ.mk rfl ⟨(by first | rfl | (simp [FS11_7]; done) | (simp [FS11_7, *]; done) | (simp [FS11_7, gotV]; done) | (simp [FS11_7, gotV]; omega)), fun h => absurd h (by decide)⟩ (by (repeat' (first | exact Below.refl _ _ | assumption | refine Below.setCell ?_ ?_ _ | refine Below.drew ?_ | refine Below.alloc ?_ ?_ _ | refine Below.trans ?_ (Below.mono (by assumption) ?_) | (simp; done) | (simp; omega) | omega)))
      | 8, _ => exact absurd hl (by decide)
      | 9, _ => exact absurd hl (by decide)
      | 10, _ =>
        injection ho with ho
        subst ho
        clear hl
        simp only [fillA, List.take, List.drop, put_none, Act.put, List.setIfInBounds_toArray, List.set_cons_zero, List.set_cons_succ, Nat.reduceAdd]
        clear hf
        have hc1 := cellOf hb1
        have hf1 := frozOf hb1
        have hz1 := sizeOf hb1
        try simp at hz1
        go_wp2_with (fail)
        exact RQ.mk rfl ⟨⟨_, rfl, (by first | omega | (simp; omega)), heap_alloc_new _ _⟩, fun _ => Nat.le_refl _⟩ (by (repeat' (first | exact Below.refl _ _ | assumption | refine Below.setCell ?_ ?_ _ | refine Below.drew ?_ | refine Below.alloc ?_ ?_ _ | refine Below.trans ?_ (Below.mono (by assumption) ?_) | (simp; done) | (simp; omega) | omega)))
      | 11, _ =>
        injection ho with ho
        subst ho
        clear hl
        simp only [fillA, List.take, List.drop, put_none, Act.put, List.setIfInBounds_toArray, List.set_cons_zero, List.set_cons_succ, Nat.reduceAdd]
        clear hf
        have hc1 := cellOf hb1
        have hf1 := frozOf hb1
        have hz1 := sizeOf hb1
        try simp at hz1
        go_wp2_with (fail)
        exact RQ.mk rfl ⟨⟨_, rfl, (by first | omega | (simp; omega)), heap_alloc_new _ _⟩, fun _ => Nat.le_refl _⟩ (by (repeat' (first | exact Below.refl _ _ | assumption | refine Below.setCell ?_ ?_ _ | refine Below.drew ?_ | refine Below.alloc ?_ ?_ _ | refine Below.trans ?_ (Below.mono (by assumption) ?_) | (simp; done) | (simp; omega) | omega)))
    · intro vals w1 hb1 hf hd
      simp only [fillA, List.take, List.drop, put_none, Act.put, List.setIfInBounds_toArray, List.set_cons_zero, List.set_cons_succ, Nat.reduceAdd]
      have hd10_11 := hd 10 11 (by decide) (by decide) (by decide) (by decide) (by decide)
      clear hd
      have f0 := hf 0 (by decide)
      generalize vals 0 = v0 at *
      subst f0
      have f1 := hf 1 (by decide)
      generalize vals 1 = v1 at *
      subst f1
      have f2 := hf 2 (by decide)
      generalize vals 2 = v2 at *
      subst f2
      have f3 := hf 3 (by decide)
      generalize vals 3 = v3 at *
      subst f3
      have f4 := hf 4 (by decide)
      generalize vals 4 = v4 at *
      subst f4
      have f5 := hf 5 (by decide)
      generalize vals 5 = v5 at *
      subst f5
      have f6 := hf 6 (by decide)
      generalize vals 6 = v6 at *
      subst f6
      have f7 := hf 7 (by decide)
      generalize vals 7 = v7 at *
      subst f7
      have f8 := hf 8 (by decide)
      generalize vals 8 = v8 at *
      subst f8
      have f9 := hf 9 (by decide)
      generalize vals 9 = v9 at *
      subst f9
      have f10 := hf 10 (by decide)
      generalize vals 10 = v10 at *
      obtain ⟨g5, rfl, hg5a, hg5b⟩ := f10
      try simp at hg5a
      have f11 := hf 11 (by decide)
      generalize vals 11 = v11 at *
      obtain ⟨g6, rfl, hg6a, hg6b⟩ := f11
      try simp at hg6a
      clear hf
      simp only [blkV] at hd10_11
      have hc1 := cellOf hb1
      have hf1 := frozOf hb1
      have hz1 := sizeOf hb1
      try simp at hz1
      have hg5c := Fresh.lt hg5b
      have hg5d := Fresh.cell hg5b
      have hg5e := Fresh.froz hg5b
      have hg5f := Fresh.far hg5b
      have hg5g := Fresh.farz hg5b
      clear hg5b
      have hg6c := Fresh.lt hg6b
      have hg6d := Fresh.cell hg6b
      have hg6e := Fresh.froz hg6b
      have hg6f := Fresh.far hg6b
      have hg6g := Fresh.farz hg6b
      clear hg6b
      go_wp2_with (first | (go_at_call 32; refine (c_laws_szLegS _ _ _ _ _ (by omega) (by omega)).mono ?_; rintro e w' ⟨rfl, hb⟩; have hc := cellOf hb; have hf := frozOf hb; have hz := sizeOf hb; try simp at hz) | (go_at_call 16; refine (c_laws_toInterval _ _ _ ).mono ?_; rintro e w' ⟨rfl, hb⟩; have hc := cellOf hb; have hf := frozOf hb; have hz := sizeOf hb; try simp at hz) | (go_at_call 34; refine (c_laws_toLegS _ _ _ _ (by first | assumption | exact Rds.below (by assumption) (by (repeat' (first | exact Below.refl _ _ | assumption | refine Below.setCell ?_ ?_ _ | refine Below.drew ?_ | refine Below.alloc ?_ ?_ _ | refine Below.trans ?_ (Below.mono (by assumption) ?_) | (simp; done) | (simp; omega) | omega)))) (by omega)).mono ?_; rintro e w' ⟨g, rfl, hg, ho, hb⟩; have hr := ho.rds; have hlo := ho.lt; have HO := hid ho; clear ho; have hc := cellOf hb; have hf := frozOf hb; have hz := sizeOf hb; try simp at hz) | (go_at_call 38; refine (c_impl_NarrowVoyage _ _ _ _ _ _ _ _ (by first | assumption | exact Rds.below (by assumption) (by (repeat' (first | exact Below.refl _ _ | assumption | refine Below.setCell ?_ ?_ _ | refine Below.drew ?_ | refine Below.alloc ?_ ?_ _ | refine Below.trans ?_ (Below.mono (by assumption) ?_) | (simp; done) | (simp; omega) | omega)))) (by omega) ).mono ?_; rintro e w' ⟨rfl, hb⟩; have hc := cellOf hb; have hf := frozOf hb; have hz := sizeOf hb; try simp at hz) | (go_at_call 37; refine (c_spec_NarrowVoyage _ _ _ _ _ _ _ _ (by first | assumption | exact Rds.below (by assumption) (by (repeat' (first | exact Below.refl _ _ | assumption | refine Below.setCell ?_ ?_ _ | refine Below.drew ?_ | refine Below.alloc ?_ ?_ _ | refine Below.trans ?_ (Below.mono (by assumption) ?_) | (simp; done) | (simp; omega) | omega)))) (by omega) ).mono ?_; rintro e w' ⟨rfl, hb⟩; have hc := cellOf hb; have hf := frozOf hb; have hz := sizeOf hb; try simp at hz) | (go_at_call 22; refine (c_laws_eqInterval _ _ _ _ _ ).mono ?_; rintro e w' ⟨rfl, hb⟩; have hc := cellOf hb; have hf := frozOf hb; have hz := sizeOf hb; try simp at hz) | (go_at_call 36; refine (c_laws_eqLegS _ _ _ _ _ _ _ (by first | assumption | exact Rds.below (by assumption) (by (repeat' (first | exact Below.refl _ _ | assumption | refine Below.setCell ?_ ?_ _ | refine Below.drew ?_ | refine Below.alloc ?_ ?_ _ | refine Below.trans ?_ (Below.mono (by assumption) ?_) | (simp; done) | (simp; omega) | omega)))) (by first | assumption | exact Rds.below (by assumption) (by (repeat' (first | exact Below.refl _ _ | assumption | refine Below.setCell ?_ ?_ _ | refine Below.drew ?_ | refine Below.alloc ?_ ?_ _ | refine Below.trans ?_ (Below.mono (by assumption) ?_) | (simp; done) | (simp; omega) | omega)))) (by omega) (by omega) ).mono ?_; rintro e w' ⟨rfl, hb⟩; have hc := cellOf hb; have hf := frozOf hb; have hz := sizeOf hb; try simp at hz))
      all_goals go_ret
      all_goals
        refine ⟨ret_bool ?_, ?_⟩
        · first | rfl | omega | (simp []; done) | (simp []; omega) | (simp []; (repeat' split) <;> (first | omega | (simp; done) | (simp; omega))) | (simp_all []; done) | (simp_all []; omega)
        · (repeat' (first | exact Below.refl _ _ | assumption | refine Below.setCell ?_ ?_ _ | refine Below.drew ?_ | refine Below.alloc ?_ ?_ _ | refine Below.trans ?_ (Below.mono (by assumption) ?_) | (simp; done) | (simp; omega) | omega))

end Go.Proofs.Ythlmeofjjmfpnaa
