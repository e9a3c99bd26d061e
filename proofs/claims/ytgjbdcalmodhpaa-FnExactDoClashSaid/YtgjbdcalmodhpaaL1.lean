import Derived.Test.YtgjbdcalmodhpaaP4i
import Derived.Test.YtgjbdcalmodhpaaP4s
import Derived.Test.YtgjbdcalmodhpaaP5
namespace Go.Proofs.Ytgjbdcalmodhpaa
open Go.RowKit

def FS3_1 (i : Int) (d : Bool) (a b : Int) (i' : Int) (d' : Bool) (a' b' : Int) (g : Int) (w W0 : World) (iq : Nat) (v : Value) (w1 : World) : Prop := match iq with
  | 0 => v = .agg #[.int .i64 (i), .bool (d), .int .i64 (a), .int .i64 (b)]
  | 1 => v = .agg #[.int .i64 (i), .bool (d), .int .i64 (a), .int .i64 (b)]
  | 2 => v = .agg #[.int .i64 (i'), .bool (d'), .int .i64 (a'), .int .i64 (b')]
  | 3 => v = .agg #[.int .i64 ((i')), .bool ((d')), .int .i64 ((a')), .int .i64 ((b'))]
  | 4 => v = .int .i64 (g)
  | 5 => v = .tuple #[.bool ((doClashV i d a b ((i')) ((d')) ((a')) ((b')) g).1), .bool ((doClashV i d a b ((i')) ((d')) ((a')) ((b')) g).2)]
  | 6 => v = .tuple #[.bool ((doClashV i d a b ((i')) ((d')) ((a')) ((b')) g).1), .bool ((doClashV i d a b ((i')) ((d')) ((a')) ((b')) g).2)]
  | 7 => v = .bool ((doClashV i d a b ((i')) ((d')) ((a')) ((b')) g).1)
  | 8 => v = .bool ((doClashV i d a b ((i')) ((d')) ((a')) ((b')) g).2)
  | _ => True

def FS3_2 (i : Int) (d : Bool) (a b : Int) (i' : Int) (d' : Bool) (a' b' : Int) (g : Int) (w W0 : World) (iq : Nat) (v : Value) (w1 : World) : Prop := match iq with
  | 0 => v = .agg #[.int .i64 (i), .bool (d), .int .i64 (a), .int .i64 (b)]
  | 1 => v = .agg #[.int .i64 (i), .bool (d), .int .i64 (a), .int .i64 (b)]
  | 2 => v = .agg #[.int .i64 (i'), .bool (d'), .int .i64 (a'), .int .i64 (b')]
  | 3 => v = .agg #[.int .i64 ((i')), .bool ((d')), .int .i64 ((a')), .int .i64 ((b'))]
  | 4 => v = .int .i64 (g)
  | 5 => v = .tuple #[.bool ((doClashV i d a b ((i')) ((d')) ((a')) ((b')) g).1), .bool ((doClashV i d a b ((i')) ((d')) ((a')) ((b')) g).2)]
  | 6 => v = .tuple #[.bool ((doClashV i d a b ((i')) ((d')) ((a')) ((b')) g).1), .bool ((doClashV i d a b ((i')) ((d')) ((a')) ((b')) g).2)]
  | 7 => v = .bool ((doClashV i d a b ((i')) ((d')) ((a')) ((b')) g).1)
  | 8 => v = .bool ((doClashV i d a b ((i')) ((d')) ((a')) ((b')) g).2)
  | _ => True

set_option maxHeartbeats 4000000 in
theorem c_laws_FnExactDoClash (i : Int) (d : Bool) (a b : Int) (i' : Int) (d' : Bool) (a' b' : Int) (g : Int) (w : World)  :
    Calls Try.prog 3 #[.agg #[.int .i64 (i), .bool (d), .int .i64 (a), .int .i64 (b)], .agg #[.int .i64 (i'), .bool (d'), .int .i64 (a'), .int .i64 (b')], .int .i64 (g)] w fun e w' => e = .returned (.bool (true)) ∧ Below w.heap.size w w' := by
  go_enter Try.func3, Try.ntmps3
  go_wp2_with (first | (go_at_call 14; refine (c_laws_toPassage _ _ _ _ _ ).mono ?_; rintro e w' ⟨rfl, hb⟩; have hc := cellOf hb; have hf := frozOf hb; have hz := sizeOf hb; try simp at hz) | (go_at_call 15; refine (c_impl_DoClash _ _ _ _ _ _ _ _ _ _ ).mono ?_; rintro e w' ⟨rfl, hb⟩; have hc := cellOf hb; have hf := frozOf hb; have hz := sizeOf hb; try simp at hz) | (go_at_call 13; refine (c_spec_DoClash _ _ _ _ _ _ _ _ _ _ ).mono ?_; rintro e w' ⟨rfl, hb⟩; have hc := cellOf hb; have hf := frozOf hb; have hz := sizeOf hb; try simp at hz))
  refine wp_region_w (n := 9) [8] [] (FS3_1 i d a b i' d' a' b' g w) rfl (by kernel_rfl) (fun _ _ d _ _ h => by cases d <;> exact h) ?_ ?_ ?_ ?_ ?_ ?_
  · intro iq
    match iq with
    | 0 | 1 | 2 | 3 | 4 | 5 | 6 | 7 | 8 => exact Stable.const _
    | n + 9 => exact Stable.const _
  · intro iq hi
    exact absurd hi (by simp)
  · intro iq hi
    have hcase : iq = 8 := by simpa using hi
    subst hcase
    rfl
  · intro iq o hi hl ho vals w1 hb1 hf
    match iq, hi with
    | 8, _ =>
      injection ho with ho
      subst ho
      clear hl
      simp only [fillA, List.take, List.drop, put_none, Act.put, List.setIfInBounds_toArray, List.set_cons_zero, List.set_cons_succ, Nat.reduceAdd]
      have f6 := hf 6 (by decide) (by kernel_rfl)
      generalize vals 6 = v6 at *
      subst f6
      exact ⟨_, rfl, .inl ⟨rfl, fun _ => rfl⟩⟩
  · intro iq o hi hl ho vals w1 hb1 hf
    match iq, hi with
    | 0, _ =>
      injection ho with ho
      subst ho
      clear hl
      simp only [fillA, List.take, List.drop, put_none, Act.put, List.setIfInBounds_toArray, List.set_cons_zero, List.set_cons_succ, Nat.reduceAdd]
      clear hf
      have hc1 := cellOf hb1
      have hf1 := frozOf hb1
      have hz1 := sizeOf hb1
      try simp at hz1
      go_wp2_with (first | (go_at_call 14; refine (c_laws_toPassage _ _ _ _ _ ).mono ?_; rintro e w' ⟨rfl, hb⟩; have hc := cellOf hb; have hf := frozOf hb; have hz := sizeOf hb; try simp at hz) | (go_at_call 15; refine (c_impl_DoClash _ _ _ _ _ _ _ _ _ _ ).mono ?_; rintro e w' ⟨rfl, hb⟩; have hc := cellOf hb; have hf := frozOf hb; have hz := sizeOf hb; try simp at hz) | (go_at_call 13; refine (c_spec_DoClash _ _ _ _ _ _ _ _ _ _ ).mono ?_; rintro e w' ⟨rfl, hb⟩; have hc := cellOf hb; have hf := frozOf hb; have hz := sizeOf hb; try simp at hz))
      exact RQ.mk rfl ⟨(by first | rfl | (simp [FS3_1]; done) | (simp [FS3_1, *]; done) | (simp [FS3_1, gotV]; done) | (simp [FS3_1, gotV]; omega)), fun h => absurd h (by decide)⟩ (by (repeat' (first | exact Below.refl _ _ | assumption | refine Below.setCell ?_ ?_ _ | refine Below.drew ?_ | refine Below.alloc ?_ ?_ _ | refine Below.trans ?_ (Below.mono (by assumption) ?_) | (simp; done) | (simp; omega) | omega)))
    | 1, _ =>
      injection ho with ho
      subst ho
      clear hl
      simp only [fillA, List.take, List.drop, put_none, Act.put, List.setIfInBounds_toArray, List.set_cons_zero, List.set_cons_succ, Nat.reduceAdd]
      have f0 := hf 0 (by decide) (by kernel_rfl)
      generalize vals 0 = v0 at *
      subst f0
      clear hf
      have hc1 := cellOf hb1
      have hf1 := frozOf hb1
      have hz1 := sizeOf hb1
      try simp at hz1
      go_wp2_with (first | (go_at_call 14; refine (c_laws_toPassage _ _ _ _ _ ).mono ?_; rintro e w' ⟨rfl, hb⟩; have hc := cellOf hb; have hf := frozOf hb; have hz := sizeOf hb; try simp at hz) | (go_at_call 15; refine (c_impl_DoClash _ _ _ _ _ _ _ _ _ _ ).mono ?_; rintro e w' ⟨rfl, hb⟩; have hc := cellOf hb; have hf := frozOf hb; have hz := sizeOf hb; try simp at hz) | (go_at_call 13; refine (c_spec_DoClash _ _ _ _ _ _ _ _ _ _ ).mono ?_; rintro e w' ⟨rfl, hb⟩; have hc := cellOf hb; have hf := frozOf hb; have hz := sizeOf hb; try simp at hz))
      exact RQ.mk rfl ⟨(by first | rfl | (simp [FS3_1]; done) | (simp [FS3_1, *]; done) | (simp [FS3_1, gotV]; done) | (simp [FS3_1, gotV]; omega)), fun h => absurd h (by decide)⟩ (by (repeat' (first | exact Below.refl _ _ | assumption | refine Below.setCell ?_ ?_ _ | refine Below.drew ?_ | refine Below.alloc ?_ ?_ _ | refine Below.trans ?_ (Below.mono (by assumption) ?_) | (simp; done) | (simp; omega) | omega)))
    | 2, _ =>
      injection ho with ho
      subst ho
      clear hl
      simp only [fillA, List.take, List.drop, put_none, Act.put, List.setIfInBounds_toArray, List.set_cons_zero, List.set_cons_succ, Nat.reduceAdd]
      clear hf
      have hc1 := cellOf hb1
      have hf1 := frozOf hb1
      have hz1 := sizeOf hb1
      try simp at hz1
      go_wp2_with (first | (go_at_call 14; refine (c_laws_toPassage _ _ _ _ _ ).mono ?_; rintro e w' ⟨rfl, hb⟩; have hc := cellOf hb; have hf := frozOf hb; have hz := sizeOf hb; try simp at hz) | (go_at_call 15; refine (c_impl_DoClash _ _ _ _ _ _ _ _ _ _ ).mono ?_; rintro e w' ⟨rfl, hb⟩; have hc := cellOf hb; have hf := frozOf hb; have hz := sizeOf hb; try simp at hz) | (go_at_call 13; refine (c_spec_DoClash _ _ _ _ _ _ _ _ _ _ ).mono ?_; rintro e w' ⟨rfl, hb⟩; have hc := cellOf hb; have hf := frozOf hb; have hz := sizeOf hb; try simp at hz))
      exact RQ.mk rfl ⟨(by first | rfl | (simp [FS3_1]; done) | (simp [FS3_1, *]; done) | (simp [FS3_1, gotV]; done) | (simp [FS3_1, gotV]; omega)), fun h => absurd h (by decide)⟩ (by (repeat' (first | exact Below.refl _ _ | assumption | refine Below.setCell ?_ ?_ _ | refine Below.drew ?_ | refine Below.alloc ?_ ?_ _ | refine Below.trans ?_ (Below.mono (by assumption) ?_) | (simp; done) | (simp; omega) | omega)))
    | 3, _ =>
      injection ho with ho
      subst ho
      clear hl
      simp only [fillA, List.take, List.drop, put_none, Act.put, List.setIfInBounds_toArray, List.set_cons_zero, List.set_cons_succ, Nat.reduceAdd]
      have f2 := hf 2 (by decide) (by kernel_rfl)
      generalize vals 2 = v2 at *
      subst f2
      have f1 := hf 1 (by decide) (by kernel_rfl)
      generalize vals 1 = v1 at *
      subst f1
      clear hf
      have hc1 := cellOf hb1
      have hf1 := frozOf hb1
      have hz1 := sizeOf hb1
      try simp at hz1
      go_wp2_with (first | (go_at_call 14; refine (c_laws_toPassage _ _ _ _ _ ).mono ?_; rintro e w' ⟨rfl, hb⟩; have hc := cellOf hb; have hf := frozOf hb; have hz := sizeOf hb; try simp at hz) | (go_at_call 15; refine (c_impl_DoClash _ _ _ _ _ _ _ _ _ _ ).mono ?_; rintro e w' ⟨rfl, hb⟩; have hc := cellOf hb; have hf := frozOf hb; have hz := sizeOf hb; try simp at hz) | (go_at_call 13; refine (c_spec_DoClash _ _ _ _ _ _ _ _ _ _ ).mono ?_; rintro e w' ⟨rfl, hb⟩; have hc := cellOf hb; have hf := frozOf hb; have hz := sizeOf hb; try simp at hz))
      exact RQ.mk rfl ⟨(by first | rfl | (simp [FS3_1]; done) | (simp [FS3_1, *]; done) | (simp [FS3_1, gotV]; done) | (simp [FS3_1, gotV]; omega)), fun h => absurd h (by decide)⟩ (by (repeat' (first | exact Below.refl _ _ | assumption | refine Below.setCell ?_ ?_ _ | refine Below.drew ?_ | refine Below.alloc ?_ ?_ _ | refine Below.trans ?_ (Below.mono (by assumption) ?_) | (simp; done) | (simp; omega) | omega)))
    | 4, _ =>
      injection ho with ho
      subst ho
      clear hl
      simp only [fillA, List.take, List.drop, put_none, Act.put, List.setIfInBounds_toArray, List.set_cons_zero, List.set_cons_succ, Nat.reduceAdd]
      clear hf
      have hc1 := cellOf hb1
      have hf1 := frozOf hb1
      have hz1 := sizeOf hb1
      try simp at hz1
      go_wp2_with (first | (go_at_call 14; refine (c_laws_toPassage _ _ _ _ _ ).mono ?_; rintro e w' ⟨rfl, hb⟩; have hc := cellOf hb; have hf := frozOf hb; have hz := sizeOf hb; try simp at hz) | (go_at_call 15; refine (c_impl_DoClash _ _ _ _ _ _ _ _ _ _ ).mono ?_; rintro e w' ⟨rfl, hb⟩; have hc := cellOf hb; have hf := frozOf hb; have hz := sizeOf hb; try simp at hz) | (go_at_call 13; refine (c_spec_DoClash _ _ _ _ _ _ _ _ _ _ ).mono ?_; rintro e w' ⟨rfl, hb⟩; have hc := cellOf hb; have hf := frozOf hb; have hz := sizeOf hb; try simp at hz))
      exact RQ.mk rfl ⟨(by first | rfl | (simp [FS3_1]; done) | (simp [FS3_1, *]; done) | (simp [FS3_1, gotV]; done) | (simp [FS3_1, gotV]; omega)), fun h => absurd h (by decide)⟩ (by (repeat' (first | exact Below.refl _ _ | assumption | refine Below.setCell ?_ ?_ _ | refine Below.drew ?_ | refine Below.alloc ?_ ?_ _ | refine Below.trans ?_ (Below.mono (by assumption) ?_) | (simp; done) | (simp; omega) | omega)))
    | 5, _ =>
      injection ho with ho
      subst ho
      clear hl
      simp only [fillA, List.take, List.drop, put_none, Act.put, List.setIfInBounds_toArray, List.set_cons_zero, List.set_cons_succ, Nat.reduceAdd]
      have f1 := hf 1 (by decide) (by kernel_rfl)
      generalize vals 1 = v1 at *
      subst f1
      have f3 := hf 3 (by decide) (by kernel_rfl)
      generalize vals 3 = v3 at *
      subst f3
      have f4 := hf 4 (by decide) (by kernel_rfl)
      generalize vals 4 = v4 at *
      subst f4
      clear hf
      have hc1 := cellOf hb1
      have hf1 := frozOf hb1
      have hz1 := sizeOf hb1
      try simp at hz1
      go_wp2_with (first | (go_at_call 14; refine (c_laws_toPassage _ _ _ _ _ ).mono ?_; rintro e w' ⟨rfl, hb⟩; have hc := cellOf hb; have hf := frozOf hb; have hz := sizeOf hb; try simp at hz) | (go_at_call 15; refine (c_impl_DoClash _ _ _ _ _ _ _ _ _ _ ).mono ?_; rintro e w' ⟨rfl, hb⟩; have hc := cellOf hb; have hf := frozOf hb; have hz := sizeOf hb; try simp at hz) | (go_at_call 13; refine (c_spec_DoClash _ _ _ _ _ _ _ _ _ _ ).mono ?_; rintro e w' ⟨rfl, hb⟩; have hc := cellOf hb; have hf := frozOf hb; have hz := sizeOf hb; try simp at hz))
      exact RQ.mk rfl ⟨(by first | rfl | (simp [FS3_1]; done) | (simp [FS3_1, *]; done) | (simp [FS3_1, gotV]; done) | (simp [FS3_1, gotV]; omega)), fun h => absurd h (by decide)⟩ (by (repeat' (first | exact Below.refl _ _ | assumption | refine Below.setCell ?_ ?_ _ | refine Below.drew ?_ | refine Below.alloc ?_ ?_ _ | refine Below.trans ?_ (Below.mono (by assumption) ?_) | (simp; done) | (simp; omega) | omega)))
    | 6, _ =>
      injection ho with ho
      subst ho
      clear hl
      simp only [fillA, List.take, List.drop, put_none, Act.put, List.setIfInBounds_toArray, List.set_cons_zero, List.set_cons_succ, Nat.reduceAdd]
      have f5 := hf 5 (by decide) (by kernel_rfl)
      generalize vals 5 = v5 at *
      subst f5
      clear hf
      have hc1 := cellOf hb1
      have hf1 := frozOf hb1
      have hz1 := sizeOf hb1
      try simp at hz1
      go_wp2_with (first | (go_at_call 14; refine (c_laws_toPassage _ _ _ _ _ ).mono ?_; rintro e w' ⟨rfl, hb⟩; have hc := cellOf hb; have hf := frozOf hb; have hz := sizeOf hb; try simp at hz) | (go_at_call 15; refine (c_impl_DoClash _ _ _ _ _ _ _ _ _ _ ).mono ?_; rintro e w' ⟨rfl, hb⟩; have hc := cellOf hb; have hf := frozOf hb; have hz := sizeOf hb; try simp at hz) | (go_at_call 13; refine (c_spec_DoClash _ _ _ _ _ _ _ _ _ _ ).mono ?_; rintro e w' ⟨rfl, hb⟩; have hc := cellOf hb; have hf := frozOf hb; have hz := sizeOf hb; try simp at hz))
      exact RQ.mk rfl ⟨(by first | rfl | (simp [FS3_1]; done) | (simp [FS3_1, *]; done) | (simp [FS3_1, gotV]; done) | (simp [FS3_1, gotV]; omega)), fun h => absurd h (by decide)⟩ (by (repeat' (first | exact Below.refl _ _ | assumption | refine Below.setCell ?_ ?_ _ | refine Below.drew ?_ | refine Below.alloc ?_ ?_ _ | refine Below.trans ?_ (Below.mono (by assumption) ?_) | (simp; done) | (simp; omega) | omega)))
    | 7, _ =>
      injection ho with ho
      subst ho
      clear hl
      simp only [fillA, List.take, List.drop, put_none, Act.put, List.setIfInBounds_toArray, List.set_cons_zero, List.set_cons_succ, Nat.reduceAdd]
      have f6 := hf 6 (by decide) (by kernel_rfl)
      generalize vals 6 = v6 at *
      subst f6
      clear hf
      have hc1 := cellOf hb1
      have hf1 := frozOf hb1
      have hz1 := sizeOf hb1
      try simp at hz1
      go_wp2_with (first | (go_at_call 14; refine (c_laws_toPassage _ _ _ _ _ ).mono ?_; rintro e w' ⟨rfl, hb⟩; have hc := cellOf hb; have hf := frozOf hb; have hz := sizeOf hb; try simp at hz) | (go_at_call 15; refine (c_impl_DoClash _ _ _ _ _ _ _ _ _ _ ).mono ?_; rintro e w' ⟨rfl, hb⟩; have hc := cellOf hb; have hf := frozOf hb; have hz := sizeOf hb; try simp at hz) | (go_at_call 13; refine (c_spec_DoClash _ _ _ _ _ _ _ _ _ _ ).mono ?_; rintro e w' ⟨rfl, hb⟩; have hc := cellOf hb; have hf := frozOf hb; have hz := sizeOf hb; try simp at hz))
      exact RQ.mk rfl ⟨(by first | rfl | (simp [FS3_1]; done) | (simp [FS3_1, *]; done) | (simp [FS3_1, gotV]; done) | (simp [FS3_1, gotV]; omega)), fun h => absurd h (by decide)⟩ (by (repeat' (first | exact Below.refl _ _ | assumption | refine Below.setCell ?_ ?_ _ | refine Below.drew ?_ | refine Below.alloc ?_ ?_ _ | refine Below.trans ?_ (Below.mono (by assumption) ?_) | (simp; done) | (simp; omega) | omega)))
    | 8, _ => exact absurd hl (by decide)
  · intro vals w1 hb1 hf hd
    simp only [fillA, List.take, List.drop, put_none, Act.put, List.setIfInBounds_toArray, List.set_cons_zero, List.set_cons_succ, Nat.reduceAdd]
    clear hd
    have f0 := hf 0 (by decide)
    generalize vals 0 = v0 at *
    subst f0
    have f1 := hf 1 (by decide)
    generalize vals 1 = v1 at *
    subst f1
    have f2 := hf 2 (by decide)
    generalize vals 2 = v2 at *
    subst f2
    have f3 := hf 3 (by decide)
    generalize vals 3 = v3 at *
    subst f3
    have f4 := hf 4 (by decide)
    generalize vals 4 = v4 at *
    subst f4
    have f5 := hf 5 (by decide)
    generalize vals 5 = v5 at *
    subst f5
    have f6 := hf 6 (by decide)
    generalize vals 6 = v6 at *
    subst f6
    have f7 := hf 7 (by decide)
    generalize vals 7 = v7 at *
    subst f7
    have f8 := hf 8 (by decide)
    generalize vals 8 = v8 at *
    subst f8
    clear hf
    have hc1 := cellOf hb1
    have hf1 := frozOf hb1
    have hz1 := sizeOf hb1
    try simp at hz1
    go_wp2_with (first | (go_at_call 14; refine (c_laws_toPassage _ _ _ _ _ ).mono ?_; rintro e w' ⟨rfl, hb⟩; have hc := cellOf hb; have hf := frozOf hb; have hz := sizeOf hb; try simp at hz) | (go_at_call 15; refine (c_impl_DoClash _ _ _ _ _ _ _ _ _ _ ).mono ?_; rintro e w' ⟨rfl, hb⟩; have hc := cellOf hb; have hf := frozOf hb; have hz := sizeOf hb; try simp at hz) | (go_at_call 13; refine (c_spec_DoClash _ _ _ _ _ _ _ _ _ _ ).mono ?_; rintro e w' ⟨rfl, hb⟩; have hc := cellOf hb; have hf := frozOf hb; have hz := sizeOf hb; try simp at hz))
    refine wp_region_w (n := 9) [8] [] (FS3_2 i d a b i' d' a' b' g w) rfl (by kernel_rfl) (fun _ _ d _ _ h => by cases d <;> exact h) ?_ ?_ ?_ ?_ ?_ ?_
    · intro iq
      match iq with
      | 0 | 1 | 2 | 3 | 4 | 5 | 6 | 7 | 8 => exact Stable.const _
      | n + 9 => exact Stable.const _
    · intro iq hi
      exact absurd hi (by simp)
    · intro iq hi
      have hcase : iq = 8 := by simpa using hi
      subst hcase
      rfl
    · intro iq o hi hl ho vals w1 hb1 hf
      match iq, hi with
      | 8, _ =>
        injection ho with ho
        subst ho
        clear hl
        simp only [fillA, List.take, List.drop, put_none, Act.put, List.setIfInBounds_toArray, List.set_cons_zero, List.set_cons_succ, Nat.reduceAdd]
        have f6 := hf 6 (by decide) (by kernel_rfl)
        generalize vals 6 = v6 at *
        subst f6
        exact ⟨_, rfl, .inl ⟨rfl, fun _ => rfl⟩⟩
    · intro iq o hi hl ho vals w1 hb1 hf
      match iq, hi with
      | 0, _ =>
        injection ho with ho
        subst ho
        clear hl
        simp only [fillA, List.take, List.drop, put_none, Act.put, List.setIfInBounds_toArray, List.set_cons_zero, List.set_cons_succ, Nat.reduceAdd]
        clear hf
        have hc1 := cellOf hb1
        have hf1 := frozOf hb1
        have hz1 := sizeOf hb1
        try simp at hz1
        go_wp2_with (first | (go_at_call 14; refine (c_laws_toPassage _ _ _ _ _ ).mono ?_; rintro e w' ⟨rfl, hb⟩; have hc := cellOf hb; have hf := frozOf hb; have hz := sizeOf hb; try simp at hz) | (go_at_call 15; refine (c_impl_DoClash _ _ _ _ _ _ _ _ _ _ ).mono ?_; rintro e w' ⟨rfl, hb⟩; have hc := cellOf hb; have hf := frozOf hb; have hz := sizeOf hb; try simp at hz) | (go_at_call 13; refine (c_spec_DoClash _ _ _ _ _ _ _ _ _ _ ).mono ?_; rintro e w' ⟨rfl, hb⟩; have hc := cellOf hb; have hf := frozOf hb; have hz := sizeOf hb; try simp at hz))
        exact RQ.mk rfl ⟨(by first | rfl | (simp [FS3_2]; done) | (simp [FS3_2, *]; done) | (simp [FS3_2, gotV]; done) | (simp [FS3_2, gotV]; omega)), fun h => absurd h (by decide)⟩ (by (repeat' (first | exact Below.refl _ _ | assumption | refine Below.setCell ?_ ?_ _ | refine Below.drew ?_ | refine Below.alloc ?_ ?_ _ | refine Below.trans ?_ (Below.mono (by assumption) ?_) | (simp; done) | (simp; omega) | omega)))
      | 1, _ =>
        injection ho with ho
        subst ho
        clear hl
        simp only [fillA, List.take, List.drop, put_none, Act.put, List.setIfInBounds_toArray, List.set_cons_zero, List.set_cons_succ, Nat.reduceAdd]
        have f0 := hf 0 (by decide) (by kernel_rfl)
        generalize vals 0 = v0 at *
        subst f0
        clear hf
        have hc1 := cellOf hb1
        have hf1 := frozOf hb1
        have hz1 := sizeOf hb1
        try simp at hz1
        go_wp2_with (first | (go_at_call 14; refine (c_laws_toPassage _ _ _ _ _ ).mono ?_; rintro e w' ⟨rfl, hb⟩; have hc := cellOf hb; have hf := frozOf hb; have hz := sizeOf hb; try simp at hz) | (go_at_call 15; refine (c_impl_DoClash _ _ _ _ _ _ _ _ _ _ ).mono ?_; rintro e w' ⟨rfl, hb⟩; have hc := cellOf hb; have hf := frozOf hb; have hz := sizeOf hb; try simp at hz) | (go_at_call 13; refine (c_spec_DoClash _ _ _ _ _ _ _ _ _ _ ).mono ?_; rintro e w' ⟨rfl, hb⟩; have hc := cellOf hb; have hf := frozOf hb; have hz := sizeOf hb; try simp at hz))
        exact RQ.mk rfl ⟨(by first | rfl | (simp [FS3_2]; done) | (simp [FS3_2, *]; done) | (simp [FS3_2, gotV]; done) | (simp [FS3_2, gotV]; omega)), fun h => absurd h (by decide)⟩ (by (repeat' (first | exact Below.refl _ _ | assumption | refine Below.setCell ?_ ?_ _ | refine Below.drew ?_ | refine Below.alloc ?_ ?_ _ | refine Below.trans ?_ (Below.mono (by assumption) ?_) | (simp; done) | (simp; omega) | omega)))
      | 2, _ =>
        injection ho with ho
        subst ho
        clear hl
        simp only [fillA, List.take, List.drop, put_none, Act.put, List.setIfInBounds_toArray, List.set_cons_zero, List.set_cons_succ, Nat.reduceAdd]
        clear hf
        have hc1 := cellOf hb1
        have hf1 := frozOf hb1
        have hz1 := sizeOf hb1
        try simp at hz1
        go_wp2_with (first | (go_at_call 14; refine (c_laws_toPassage _ _ _ _ _ ).mono ?_; rintro e w' ⟨rfl, hb⟩; have hc := cellOf hb; have hf := frozOf hb; have hz := sizeOf hb; try simp at hz) | (go_at_call 15; refine (c_impl_DoClash _ _ _ _ _ _ _ _ _ _ ).mono ?_; rintro e w' ⟨rfl, hb⟩; have hc := cellOf hb; have hf := frozOf hb; have hz := sizeOf hb; try simp at hz) | (go_at_call 13; refine (c_spec_DoClash _ _ _ _ _ _ _ _ _ _ ).mono ?_; rintro e w' ⟨rfl, hb⟩; have hc := cellOf hb; have hf := frozOf hb; have hz := sizeOf hb; try simp at hz))
        exact RQ.mk rfl ⟨(by first | rfl | (simp [FS3_2]; done) | (simp [FS3_2, *]; done) | (simp [FS3_2, gotV]; done) | (simp [FS3_2, gotV]; omega)), fun h => absurd h (by decide)⟩ (by (repeat' (first | exact Below.refl _ _ | assumption | refine Below.setCell ?_ ?_ _ | refine Below.drew ?_ | refine Below.alloc ?_ ?_ _ | refine Below.trans ?_ (Below.mono (by assumption) ?_) | (simp; done) | (simp; omega) | omega)))
      | 3, _ =>
        injection ho with ho
        subst ho
        clear hl
        simp only [fillA, List.take, List.drop, put_none, Act.put, List.setIfInBounds_toArray, List.set_cons_zero, List.set_cons_succ, Nat.reduceAdd]
        have f2 := hf 2 (by decide) (by kernel_rfl)
        generalize vals 2 = v2 at *
        subst f2
        have f1 := hf 1 (by decide) (by kernel_rfl)
        generalize vals 1 = v1 at *
        subst f1
        clear hf
        have hc1 := cellOf hb1
        have hf1 := frozOf hb1
        have hz1 := sizeOf hb1
        try simp at hz1
        go_wp2_with (first | (go_at_call 14; refine (c_laws_toPassage _ _ _ _ _ ).mono ?_; rintro e w' ⟨rfl, hb⟩; have hc := cellOf hb; have hf := frozOf hb; have hz := sizeOf hb; try simp at hz) | (go_at_call 15; refine (c_impl_DoClash _ _ _ _ _ _ _ _ _ _ ).mono ?_; rintro e w' ⟨rfl, hb⟩; have hc := cellOf hb; have hf := frozOf hb; have hz := sizeOf hb; try simp at hz) | (go_at_call 13; refine (c_spec_DoClash _ _ _ _ _ _ _ _ _ _ ).mono ?_; rintro e w' ⟨rfl, hb⟩; have hc := cellOf hb; have hf := frozOf hb; have hz := sizeOf hb; try simp at hz))
        exact RQ.mk rfl ⟨(by first | rfl | (simp [FS3_2]; done) | (simp [FS3_2, *]; done) | (simp [FS3_2, gotV]; done) | (simp [FS3_2, gotV]; omega)), fun h => absurd h (by decide)⟩ (by (repeat' (first | exact Below.refl _ _ | assumption | refine Below.setCell ?_ ?_ _ | refine Below.drew ?_ | refine Below.alloc ?_ ?_ _ | refine Below.trans ?_ (Below.mono (by assumption) ?_) | (simp; done) | (simp; omega) | omega)))
      | 4, _ =>
        injection ho with ho
        subst ho
        clear hl
        simp only [fillA, List.take, List.drop, put_none, Act.put, List.setIfInBounds_toArray, List.set_cons_zero, List.set_cons_succ, Nat.reduceAdd]
        clear hf
        have hc1 := cellOf hb1
        have hf1 := frozOf hb1
        have hz1 := sizeOf hb1
        try simp at hz1
        go_wp2_with (first | (go_at_call 14; refine (c_laws_toPassage _ _ _ _ _ ).mono ?_; rintro e w' ⟨rfl, hb⟩; have hc := cellOf hb; have hf := frozOf hb; have hz := sizeOf hb; try simp at hz) | (go_at_call 15; refine (c_impl_DoClash _ _ _ _ _ _ _ _ _ _ ).mono ?_; rintro e w' ⟨rfl, hb⟩; have hc := cellOf hb; have hf := frozOf hb; have hz := sizeOf hb; try simp at hz) | (go_at_call 13; refine (c_spec_DoClash _ _ _ _ _ _ _ _ _ _ ).mono ?_; rintro e w' ⟨rfl, hb⟩; have hc := cellOf hb; have hf := frozOf hb; have hz := sizeOf hb; try simp at hz))
        exact RQ.mk rfl ⟨(by first | rfl | (simp [FS3_2]; done) | (simp [FS3_2, *]; done) | (simp [FS3_2, gotV]; done) | (simp [FS3_2, gotV]; omega)), fun h => absurd h (by decide)⟩ (by (repeat' (first | exact Below.refl _ _ | assumption | refine Below.setCell ?_ ?_ _ | refine Below.drew ?_ | refine Below.alloc ?_ ?_ _ | refine Below.trans ?_ (Below.mono (by assumption) ?_) | (simp; done) | (simp; omega) | omega)))
      | 5, _ =>
        injection ho with ho
        subst ho
        clear hl
        simp only [fillA, List.take, List.drop, put_none, Act.put, List.setIfInBounds_toArray, List.set_cons_zero, List.set_cons_succ, Nat.reduceAdd]
        have f1 := hf 1 (by decide) (by kernel_rfl)
        generalize vals 1 = v1 at *
        subst f1
        have f3 := hf 3 (by decide) (by kernel_rfl)
        generalize vals 3 = v3 at *
        subst f3
        have f4 := hf 4 (by decide) (by kernel_rfl)
        generalize vals 4 = v4 at *
        subst f4
        clear hf
        have hc1 := cellOf hb1
        have hf1 := frozOf hb1
        have hz1 := sizeOf hb1
        try simp at hz1
        go_wp2_with (first | (go_at_call 14; refine (c_laws_toPassage _ _ _ _ _ ).mono ?_; rintro e w' ⟨rfl, hb⟩; have hc := cellOf hb; have hf := frozOf hb; have hz := sizeOf hb; try simp at hz) | (go_at_call 15; refine (c_impl_DoClash _ _ _ _ _ _ _ _ _ _ ).mono ?_; rintro e w' ⟨rfl, hb⟩; have hc := cellOf hb; have hf := frozOf hb; have hz := sizeOf hb; try simp at hz) | (go_at_call 13; refine (c_spec_DoClash _ _ _ _ _ _ _ _ _ _ ).mono ?_; rintro e w' ⟨rfl, hb⟩; have hc := cellOf hb; have hf := frozOf hb; have hz := sizeOf hb; try simp at hz))
        exact RQ.mk rfl ⟨(by first | rfl | (simp [FS3_2]; done) | (simp [FS3_2, *]; done) | (simp [FS3_2, gotV]; done) | (simp [FS3_2, gotV]; omega)), fun h => absurd h (by decide)⟩ (by (repeat' (first | exact Below.refl _ _ | assumption | refine Below.setCell ?_ ?_ _ | refine Below.drew ?_ | refine Below.alloc ?_ ?_ _ | refine Below.trans ?_ (Below.mono (by assumption) ?_) | (simp; done) | (simp; omega) | omega)))
      | 6, _ =>
        injection ho with ho
        subst ho
        clear hl
        simp only [fillA, List.take, List.drop, put_none, Act.put, List.setIfInBounds_toArray, List.set_cons_zero, List.set_cons_succ, Nat.reduceAdd]
        have f5 := hf 5 (by decide) (by kernel_rfl)
        generalize vals 5 = v5 at *
        subst f5
        clear hf
        have hc1 := cellOf hb1
        have hf1 := frozOf hb1
        have hz1 := sizeOf hb1
        try simp at hz1
        go_wp2_with (first | (go_at_call 14; refine (c_laws_toPassage _ _ _ _ _ ).mono ?_; rintro e w' ⟨rfl, hb⟩; have hc := cellOf hb; have hf := frozOf hb; have hz := sizeOf hb; try simp at hz) | (go_at_call 15; refine (c_impl_DoClash _ _ _ _ _ _ _ _ _ _ ).mono ?_; rintro e w' ⟨rfl, hb⟩; have hc := cellOf hb; have hf := frozOf hb; have hz := sizeOf hb; try simp at hz) | (go_at_call 13; refine (c_spec_DoClash _ _ _ _ _ _ _ _ _ _ ).mono ?_; rintro e w' ⟨rfl, hb⟩; have hc := cellOf hb; have hf := frozOf hb; have hz := sizeOf hb; try simp at hz))
        exact RQ.mk rfl ⟨(by first | rfl | (simp [FS3_2]; done) | (simp [FS3_2, *]; done) | (simp [FS3_2, gotV]; done) | (simp [FS3_2, gotV]; omega)), fun h => absurd h (by decide)⟩ (by (repeat' (first | exact Below.refl _ _ | assumption | refine Below.setCell ?_ ?_ _ | refine Below.drew ?_ | refine Below.alloc ?_ ?_ _ | refine Below.trans ?_ (Below.mono (by assumption) ?_) | (simp; done) | (simp; omega) | omega)))
      | 7, _ =>
        injection ho with ho
        subst ho
        clear hl
        simp only [fillA, List.take, List.drop, put_none, Act.put, List.setIfInBounds_toArray, List.set_cons_zero, List.set_cons_succ, Nat.reduceAdd]
        have f6 := hf 6 (by decide) (by kernel_rfl)
        generalize vals 6 = v6 at *
        subst f6
        clear hf
        have hc1 := cellOf hb1
        have hf1 := frozOf hb1
        have hz1 := sizeOf hb1
        try simp at hz1
        go_wp2_with (first | (go_at_call 14; refine (c_laws_toPassage _ _ _ _ _ ).mono ?_; rintro e w' ⟨rfl, hb⟩; have hc := cellOf hb; have hf := frozOf hb; have hz := sizeOf hb; try simp at hz) | (go_at_call 15; refine (c_impl_DoClash _ _ _ _ _ _ _ _ _ _ ).mono ?_; rintro e w' ⟨rfl, hb⟩; have hc := cellOf hb; have hf := frozOf hb; have hz := sizeOf hb; try simp at hz) | (go_at_call 13; refine (c_spec_DoClash _ _ _ _ _ _ _ _ _ _ ).mono ?_; rintro e w' ⟨rfl, hb⟩; have hc := cellOf hb; have hf := frozOf hb; have hz := sizeOf hb; try simp at hz))
        exact RQ.mk rfl ⟨(by first | rfl | (simp [FS3_2]; done) | (simp [FS3_2, *]; done) | (simp [FS3_2, gotV]; done) | (simp [FS3_2, gotV]; omega)), fun h => absurd h (by decide)⟩ (by (repeat' (first | exact Below.refl _ _ | assumption | refine Below.setCell ?_ ?_ _ | refine Below.drew ?_ | refine Below.alloc ?_ ?_ _ | refine Below.trans ?_ (Below.mono (by assumption) ?_) | (simp; done) | (simp; omega) | omega)))
      | 8, _ => exact absurd hl (by decide)
    · intro vals w1 hb1 hf hd
      simp only [fillA, List.take, List.drop, put_none, Act.put, List.setIfInBounds_toArray, List.set_cons_zero, List.set_cons_succ, Nat.reduceAdd]
      clear hd
      have f0 := hf 0 (by decide)
      generalize vals 0 = v0 at *
      subst f0
      have f1 := hf 1 (by decide)
      generalize vals 1 = v1 at *
      subst f1
      have f2 := hf 2 (by decide)
      generalize vals 2 = v2 at *
      subst f2
      have f3 := hf 3 (by decide)
      generalize vals 3 = v3 at *
      subst f3
      have f4 := hf 4 (by decide)
      generalize vals 4 = v4 at *
      subst f4
      have f5 := hf 5 (by decide)
      generalize vals 5 = v5 at *
      subst f5
      have f6 := hf 6 (by decide)
      generalize vals 6 = v6 at *
      subst f6
      have f7 := hf 7 (by decide)
      generalize vals 7 = v7 at *
      subst f7
      have f8 := hf 8 (by decide)
      generalize vals 8 = v8 at *
      subst f8
      clear hf
      have hc1 := cellOf hb1
      have hf1 := frozOf hb1
      have hz1 := sizeOf hb1
      try simp at hz1
      go_wp2_with (first | (go_at_call 14; refine (c_laws_toPassage _ _ _ _ _ ).mono ?_; rintro e w' ⟨rfl, hb⟩; have hc := cellOf hb; have hf := frozOf hb; have hz := sizeOf hb; try simp at hz) | (go_at_call 15; refine (c_impl_DoClash _ _ _ _ _ _ _ _ _ _ ).mono ?_; rintro e w' ⟨rfl, hb⟩; have hc := cellOf hb; have hf := frozOf hb; have hz := sizeOf hb; try simp at hz) | (go_at_call 13; refine (c_spec_DoClash _ _ _ _ _ _ _ _ _ _ ).mono ?_; rintro e w' ⟨rfl, hb⟩; have hc := cellOf hb; have hf := frozOf hb; have hz := sizeOf hb; try simp at hz))
      all_goals go_ret
      all_goals
        refine ⟨ret_bool ?_, ?_⟩
        · first | rfl | omega | (simp []; done) | (simp []; omega) | (simp []; (repeat' split) <;> (first | omega | (simp; done) | (simp; omega))) | (simp_all []; done) | (simp_all []; omega)
        · (repeat' (first | exact Below.refl _ _ | assumption | refine Below.setCell ?_ ?_ _ | refine Below.drew ?_ | refine Below.alloc ?_ ?_ _ | refine Below.trans ?_ (Below.mono (by assumption) ?_) | (simp; done) | (simp; omega) | omega))

end Go.Proofs.Ytgjbdcalmodhpaa
