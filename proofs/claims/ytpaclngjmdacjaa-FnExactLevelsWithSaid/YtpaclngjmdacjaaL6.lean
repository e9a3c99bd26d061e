import Derived.Test.YtpaclngjmdacjaaE6i
import Derived.Test.YtpaclngjmdacjaaE6l
import Derived.Test.YtpaclngjmdacjaaE7n
import Derived.Test.YtpaclngjmdacjaaE9
namespace Go.Proofs.Ytpaclngjmdacjaa
set_option linter.unusedSimpArgs false
set_option linter.unusedVariables false
open Go.RowKit

def FS9_13 (l_ : Int) (u_ : Int) (v_ : Int) (A : Option Addr) (fs : List (Int)) (n3 capf g5a : Nat) (B : Option Addr) (ps : List (Int × Int × Int)) (n4 capq g5b : Nat) (W5 : World) (w W0 : World) (iq : Nat) (v : Value) (w1 : World) : Prop := match iq with
  | 0 => v = .agg #[.int .i64 (l_), .int .i64 (u_), .int .i64 (v_), .slice (some ⟨g5a, 0, none⟩) n3 n3, .slice (some ⟨g5b, 0, none⟩) n4 n4]
  | 1 => v = .agg #[.int .i64 (l_), .int .i64 (u_), .int .i64 (v_), .slice A n3 capf, .slice B n4 capq]
  | 2 => FreshTk W0.heap.size l_ u_ v_ fs ps v w1
  | 3 => v = .bool (true)
  | 4 => v = .bool (false)
  | _ => True

set_option maxRecDepth 100000 in
set_option maxHeartbeats 8000000 in
theorem c_laws_FnExactLevelsWith (l u v : Int) (A : Option Addr) (fs : List Int) (capf : Nat) (B : Option Addr) (ps : List (Int × Int × Int)) (capq : Nat) (C : Option Addr) (pl : List Int) (capp : Nat) (w : World) (hr_fs : Rds cIn 1 w A fs) (hn : fs.length ≤ 9223372036854775807) (hr_ps : Rds cPu 3 w B ps) (hm : ps.length ≤ 9223372036854775807) (hr_pl : Rds cIn 1 w C pl) (hnr : pl.length ≤ 9223372036854775807) :
    Calls Try.prog 9 #[.agg #[.int .i64 l, .int .i64 u, .int .i64 v, .slice A fs.length capf, .slice B ps.length capq], .slice C pl.length capp] w fun e w' => e = .returned (.bool true) ∧ Below w.heap.size w w' := by
  by_cases hsz_pl : pl.length ≤ 1048576
  rotate_left
  · go_enter Try.func9, Try.ntmps9
    go_wp2_with (go_at_call 13; refine (c_laws_szPumpTask _ _ _ _ _ _ _ _ _ _ _ (by omega) (by omega) (by omega)).mono ?_; rintro e w' ⟨rfl, hb⟩; have hc := cellOf hb; have hf := frozOf hb; have hz := sizeOf hb; try simp at hz)
    all_goals go_ret
    all_goals exact ⟨rfl, by (repeat' (first | exact Below.refl _ _ | assumption | refine Below.setCell ?_ ?_ _ | refine Below.drew ?_ | refine Below.alloc ?_ ?_ _ | refine Below.trans ?_ (Below.mono (by assumption) ?_) | (simp; done) | (simp; omega) | omega))⟩
  by_cases hsum : fs.length + ps.length ≤ 1048576
  rotate_left
  · go_enter Try.func9, Try.ntmps9
    go_wp2_with (go_at_call 13; refine (c_laws_szPumpTask _ _ _ _ _ _ _ _ _ _ _ (by omega) (by omega) (by omega)).mono ?_; rintro e w' ⟨rfl, hb⟩; have hc := cellOf hb; have hf := frozOf hb; have hz := sizeOf hb; try simp at hz)
    all_goals go_ret
    all_goals exact ⟨rfl, by (repeat' (first | exact Below.refl _ _ | assumption | refine Below.setCell ?_ ?_ _ | refine Below.drew ?_ | refine Below.alloc ?_ ?_ _ | refine Below.trans ?_ (Below.mono (by assumption) ?_) | (simp; done) | (simp; omega) | omega))⟩
  have hLl := levV_len l u v fs ps pl
  go_enter Try.func9, Try.ntmps9
  go_wp2_with (fail)
  refine (c_laws_szPumpTask _ _ _ _ _ _ _ _ _ _ _ (by omega) (by omega) (by omega)).mono ?_
  rintro e W1 ⟨rfl, hb1⟩
  have hc1 := cellOf hb1
  have hf1 := frozOf hb1
  have hz1 := sizeOf hb1
  try simp at hz1
  go_wp2_with (fail)
  refine (c_laws_toPumpTask l u v _ _ _ _ _ _ _ (by first | exact hr_fs | exact Rds.below hr_fs (by (repeat' (first | exact Below.refl _ _ | assumption | refine Below.setCell ?_ ?_ _ | refine Below.drew ?_ | refine Below.alloc ?_ ?_ _ | refine Below.trans ?_ (Below.mono (by assumption) ?_) | (simp; done) | (simp; omega) | omega)))) (by omega) (by first | exact hr_ps | exact Rds.below hr_ps (by (repeat' (first | exact Below.refl _ _ | assumption | refine Below.setCell ?_ ?_ _ | refine Below.drew ?_ | refine Below.alloc ?_ ?_ _ | refine Below.trans ?_ (Below.mono (by assumption) ?_) | (simp; done) | (simp; omega) | omega)))) (by omega)).mono ?_
  rintro e W2 ⟨g2a, g2b, rfl, hg2a, ho2a, hg2b, ho2b, hb2⟩
  have hF2a : FreshA cIn 1 3 _ _ _ _ _ := .inr ⟨g2a, rfl, hg2a, ho2a⟩
  have hr2a := hF2a.rds
  have hlo2a := hF2a.lo
  have hhi2a := hF2a.hi
  have HF2a := hid hF2a
  clear hF2a
  try simp at hlo2a
  clear ho2a hg2a
  have hF2b : FreshA cPu 3 71 _ _ _ _ _ := .inr ⟨g2b, rfl, hg2b, ho2b⟩
  have hr2b := hF2b.rds
  have hlo2b := hF2b.lo
  have hhi2b := hF2b.hi
  have HF2b := hid hF2b
  clear hF2b
  try simp at hlo2b
  clear ho2b hg2b
  have hc2 := cellOf hb2
  have hf2 := frozOf hb2
  have hz2 := sizeOf hb2
  try simp at hz2
  go_wp2_with (fail)
  refine (c_laws_toIntS _ _ _ _ (by first | exact hr_pl | exact Rds.below hr_pl (by (repeat' (first | exact Below.refl _ _ | assumption | refine Below.setCell ?_ ?_ _ | refine Below.drew ?_ | refine Below.alloc ?_ ?_ _ | refine Below.trans ?_ (Below.mono (by assumption) ?_) | (simp; done) | (simp; omega) | omega)))) (by omega)).mono ?_
  rintro e W3 ⟨g3, rfl, hg3, ho3, hb3⟩
  have hF3 : FreshA cIn 1 3 _ _ _ _ _ := .inr ⟨g3, rfl, hg3, ho3⟩
  have hr3 := hF3.rds
  have hlo3 := hF3.lo
  have hhi3 := hF3.hi
  have HF3 := hid hF3
  clear hF3
  try simp at hlo3
  clear ho3 hg3
  have hc3 := cellOf hb3
  have hf3 := frozOf hb3
  have hz3 := sizeOf hb3
  try simp at hz3
  go_wp2_with (fail)
  refine (c_spec_LevelsWith _ _ _ _ _ _ _ _ _ _ _ _ _ (by first | exact hr2a | exact Rds.below hr2a (by (repeat' (first | exact Below.refl _ _ | assumption | refine Below.setCell ?_ ?_ _ | refine Below.drew ?_ | refine Below.alloc ?_ ?_ _ | refine Below.trans ?_ (Below.mono (by assumption) ?_) | (simp; done) | (simp; omega) | omega)))) (by omega) (by first | exact hr2b | exact Rds.below hr2b (by (repeat' (first | exact Below.refl _ _ | assumption | refine Below.setCell ?_ ?_ _ | refine Below.drew ?_ | refine Below.alloc ?_ ?_ _ | refine Below.trans ?_ (Below.mono (by assumption) ?_) | (simp; done) | (simp; omega) | omega)))) (by omega) (by first | exact hr3 | exact Rds.below hr3 (by (repeat' (first | exact Below.refl _ _ | assumption | refine Below.setCell ?_ ?_ _ | refine Below.drew ?_ | refine Below.alloc ?_ ?_ _ | refine Below.trans ?_ (Below.mono (by assumption) ?_) | (simp; done) | (simp; omega) | omega)))) (by omega) ).mono ?_
  rintro e W4 ⟨A4, cp4, rfl, hF4, hb4⟩
  have hr4 := hF4.rds
  have hlo4 := hF4.lo
  have hhi4 := hF4.hi
  have HF4 := hid hF4
  clear hF4
  try simp at hlo4
  have hc4 := cellOf hb4
  have hf4 := frozOf hb4
  have hz4 := sizeOf hb4
  try simp at hz4
  go_wp2_with (fail)
  refine (c_laws_toPumpTask l u v _ _ _ _ _ _ _ (by first | exact hr_fs | exact Rds.below hr_fs (by (repeat' (first | exact Below.refl _ _ | assumption | refine Below.setCell ?_ ?_ _ | refine Below.drew ?_ | refine Below.alloc ?_ ?_ _ | refine Below.trans ?_ (Below.mono (by assumption) ?_) | (simp; done) | (simp; omega) | omega)))) (by omega) (by first | exact hr_ps | exact Rds.below hr_ps (by (repeat' (first | exact Below.refl _ _ | assumption | refine Below.setCell ?_ ?_ _ | refine Below.drew ?_ | refine Below.alloc ?_ ?_ _ | refine Below.trans ?_ (Below.mono (by assumption) ?_) | (simp; done) | (simp; omega) | omega)))) (by omega)).mono ?_
  rintro e W5 ⟨g5a, g5b, rfl, hg5a, ho5a, hg5b, ho5b, hb5⟩
  have hF5a : FreshA cIn 1 3 _ _ _ _ _ := .inr ⟨g5a, rfl, hg5a, ho5a⟩
  have hr5a := hF5a.rds
  have hlo5a := hF5a.lo
  have hhi5a := hF5a.hi
  have HF5a := hid hF5a
  clear hF5a
  try simp at hlo5a
  clear ho5a hg5a
  have hF5b : FreshA cPu 3 71 _ _ _ _ _ := .inr ⟨g5b, rfl, hg5b, ho5b⟩
  have hr5b := hF5b.rds
  have hlo5b := hF5b.lo
  have hhi5b := hF5b.hi
  have HF5b := hid hF5b
  clear hF5b
  try simp at hlo5b
  clear ho5b hg5b
  have hc5 := cellOf hb5
  have hf5 := frozOf hb5
  have hz5 := sizeOf hb5
  try simp at hz5
  go_wp2_with (fail)
  refine (c_laws_toIntS _ _ _ _ (by first | exact hr_pl | exact Rds.below hr_pl (by (repeat' (first | exact Below.refl _ _ | assumption | refine Below.setCell ?_ ?_ _ | refine Below.drew ?_ | refine Below.alloc ?_ ?_ _ | refine Below.trans ?_ (Below.mono (by assumption) ?_) | (simp; done) | (simp; omega) | omega)))) (by omega)).mono ?_
  rintro e W6 ⟨g6, rfl, hg6, ho6, hb6⟩
  have hF6 : FreshA cIn 1 3 _ _ _ _ _ := .inr ⟨g6, rfl, hg6, ho6⟩
  have hr6 := hF6.rds
  have hlo6 := hF6.lo
  have hhi6 := hF6.hi
  have HF6 := hid hF6
  clear hF6
  try simp at hlo6
  clear ho6 hg6
  have hc6 := cellOf hb6
  have hf6 := frozOf hb6
  have hz6 := sizeOf hb6
  try simp at hz6
  go_wp2_with (fail)
  refine (c_impl_LevelsWith _ _ _ _ _ _ _ _ _ _ _ _ _ (by first | exact hr5a | exact Rds.below hr5a (by (repeat' (first | exact Below.refl _ _ | assumption | refine Below.setCell ?_ ?_ _ | refine Below.drew ?_ | refine Below.alloc ?_ ?_ _ | refine Below.trans ?_ (Below.mono (by assumption) ?_) | (simp; done) | (simp; omega) | omega)))) (by omega) (by first | exact hr5b | exact Rds.below hr5b (by (repeat' (first | exact Below.refl _ _ | assumption | refine Below.setCell ?_ ?_ _ | refine Below.drew ?_ | refine Below.alloc ?_ ?_ _ | refine Below.trans ?_ (Below.mono (by assumption) ?_) | (simp; done) | (simp; omega) | omega)))) (by omega) (by first | exact hr6 | exact Rds.below hr6 (by (repeat' (first | exact Below.refl _ _ | assumption | refine Below.setCell ?_ ?_ _ | refine Below.drew ?_ | refine Below.alloc ?_ ?_ _ | refine Below.trans ?_ (Below.mono (by assumption) ?_) | (simp; done) | (simp; omega) | omega)))) (by omega) ).mono ?_
  rintro e W7 ⟨A7, cp7, rfl, hF7, hb7⟩
  have hr7 := hF7.rds
  have hlo7 := hF7.lo
  have hhi7 := hF7.hi
  have HF7 := hid hF7
  clear hF7
  try simp at hlo7
  have hc7 := cellOf hb7
  have hf7 := frozOf hb7
  have hz7 := sizeOf hb7
  try simp at hz7
  go_wp2_with (fail)
  refine (c_laws_eqIntS _ _ _ _ _ _ _ (by first | exact hr7 | exact Rds.below hr7 (by (repeat' (first | exact Below.refl _ _ | assumption | refine Below.setCell ?_ ?_ _ | refine Below.drew ?_ | refine Below.alloc ?_ ?_ _ | refine Below.trans ?_ (Below.mono (by assumption) ?_) | (simp; done) | (simp; omega) | omega)))) (by first | exact hr4 | exact Rds.below hr4 (by (repeat' (first | exact Below.refl _ _ | assumption | refine Below.setCell ?_ ?_ _ | refine Below.drew ?_ | refine Below.alloc ?_ ?_ _ | refine Below.trans ?_ (Below.mono (by assumption) ?_) | (simp; done) | (simp; omega) | omega)))) (by omega) (by omega)).mono ?_
  rintro e W8 ⟨rfl, hb8⟩
  have hc8 := cellOf hb8
  have hf8 := frozOf hb8
  have hz8 := sizeOf hb8
  try simp at hz8
  go_wp2_with (fail)
  refine wp_region_w (n := 5) [] [] (FS9_13 l u v A fs fs.length capf g5a B ps ps.length capq g5b W5 w) rfl (by kernel_rfl) (fun _ _ d _ _ h => by cases d <;> exact h) ?_ ?_ ?_ ?_ ?_ ?_
  · intro iq
    match iq with
    | 0 | 1 | 3 | 4 => exact Stable.const _
    | 2 => exact FreshTk.stable
    | n + 5 => exact Stable.const _
  · intro iq hi
    exact absurd hi (by simp)
  · intro iq hi
    exact absurd hi (by simp)
  · intro iq o hi hl ho vals w1 hb1 hf
    exact absurd hl (by simp)
  · intro iq o hi hl ho vals w1 hb1 hf
    match iq, hi with
    | 0, _ =>
      injection ho with ho
      subst ho
      clear hl
      simp only [fillA, List.take, List.drop, put_none, Act.put, List.setIfInBounds_toArray, List.set_cons_zero, List.set_cons_succ, Nat.reduceAdd]
      clear hf
      have hc1 := cellOf hb1
      have hf1 := frozOf hb1
      have hz1 := sizeOf hb1
      try simp at hz1
      go_wp2_with (fail)
      exact RQ.mk rfl ⟨(by first | rfl | (simp [FS9_13]; done) | (simp [FS9_13, *]; done) | (simp [FS9_13, gotV]; done) | (simp [FS9_13, gotV]; omega)), fun h => absurd h (by decide)⟩ (Below.refl _ _)
    | 1, _ =>
      injection ho with ho
      subst ho
      clear hl
      simp only [fillA, List.take, List.drop, put_none, Act.put, List.setIfInBounds_toArray, List.set_cons_zero, List.set_cons_succ, Nat.reduceAdd]
      clear hf
      have hc1 := cellOf hb1
      have hf1 := frozOf hb1
      have hz1 := sizeOf hb1
      try simp at hz1
      go_wp2_with (fail)
      exact RQ.mk rfl ⟨(by first | rfl | (simp [FS9_13]; done) | (simp [FS9_13, *]; done) | (simp [FS9_13, gotV]; done) | (simp [FS9_13, gotV]; omega)), fun h => absurd h (by decide)⟩ (Below.refl _ _)
    | 2, _ =>
      injection ho with ho
      subst ho
      clear hl
      simp only [fillA, List.take, List.drop, put_none, Act.put, List.setIfInBounds_toArray, List.set_cons_zero, List.set_cons_succ, Nat.reduceAdd]
      have f1 := hf 1 (by decide) (by kernel_rfl)
      generalize vals 1 = v1 at *
      subst f1
      clear hf
      have hc1 := cellOf hb1
      have hf1 := frozOf hb1
      have hz1 := sizeOf hb1
      try simp at hz1
      go_wp2_with (first | (go_at_call 15; refine (c_laws_toPumpTask _ _ _ _ _ _ _ _ _ _ (by first | assumption | exact Rds.below (by assumption) (by (repeat' (first | exact Below.refl _ _ | assumption | refine Below.setCell ?_ ?_ _ | refine Below.drew ?_ | refine Below.alloc ?_ ?_ _ | refine Below.trans ?_ (Below.mono (by assumption) ?_) | (simp; done) | (simp; omega) | omega)))) (by omega) (by first | assumption | exact Rds.below (by assumption) (by (repeat' (first | exact Below.refl _ _ | assumption | refine Below.setCell ?_ ?_ _ | refine Below.drew ?_ | refine Below.alloc ?_ ?_ _ | refine Below.trans ?_ (Below.mono (by assumption) ?_) | (simp; done) | (simp; omega) | omega)))) (by omega)).mono ?_; rintro e w' ⟨g, g', rfl, hg, ho, hg2, ho2, hb⟩; have hr := ho.rds; have hlo := ho.lt; have HO := hid ho; clear ho; have hr2 := ho2.rds; have hlo2 := ho2.lt; have HO2 := hid ho2; clear ho2; have hc := cellOf hb; have hf := frozOf hb; have hz := sizeOf hb; try simp at hz))
      exact RQ.mk rfl ⟨⟨_, _, rfl, (by first | omega | (simp at *; omega)), HO.out, (by first | omega | (simp at *; omega)), HO2.out⟩, fun h => absurd h (by decide)⟩ (by (repeat' (first | exact Below.refl _ _ | assumption | refine Below.setCell ?_ ?_ _ | refine Below.drew ?_ | refine Below.alloc ?_ ?_ _ | refine Below.trans ?_ (Below.mono (by assumption) ?_) | (simp; done) | (simp; omega) | omega)))
    | 3, _ =>
      injection ho with ho
      subst ho
      clear hl
      simp only [fillA, List.take, List.drop, put_none, Act.put, List.setIfInBounds_toArray, List.set_cons_zero, List.set_cons_succ, Nat.reduceAdd]
      have f0 := hf 0 (by decide) (by kernel_rfl)
      generalize vals 0 = v0 at *
      subst f0
      have f2 := hf 2 (by decide) (by kernel_rfl)
      generalize vals 2 = v2 at *
      obtain ⟨gr1, gr1k, rfl, hgr1a, hgr1b, hgr1c, hgr1d⟩ := f2
      try simp at hgr1a hgr1c
      have hgr1r := hgr1b.rds
      have hgr1l := hgr1b.lt
      have hgr1s := hgr1d.rds
      have hgr1m := hgr1d.lt
      clear hgr1b hgr1d
      clear hf
      have hc1 := cellOf hb1
      have hf1 := frozOf hb1
      have hz1 := sizeOf hb1
      try simp at hz1
      go_wp2_with (first | (go_at_call 18; refine (c_laws_eqPumpTask _ _ _ _ _ _ _ _ _ _ _ _ _ _ _ _ _ _ _ (by first | assumption | exact Rds.below (by assumption) (by (repeat' (first | exact Below.refl _ _ | assumption | refine Below.setCell ?_ ?_ _ | refine Below.drew ?_ | refine Below.alloc ?_ ?_ _ | refine Below.trans ?_ (Below.mono (by assumption) ?_) | (simp; done) | (simp; omega) | omega)))) (by first | assumption | exact Rds.below (by assumption) (by (repeat' (first | exact Below.refl _ _ | assumption | refine Below.setCell ?_ ?_ _ | refine Below.drew ?_ | refine Below.alloc ?_ ?_ _ | refine Below.trans ?_ (Below.mono (by assumption) ?_) | (simp; done) | (simp; omega) | omega)))) (by first | assumption | exact Rds.below (by assumption) (by (repeat' (first | exact Below.refl _ _ | assumption | refine Below.setCell ?_ ?_ _ | refine Below.drew ?_ | refine Below.alloc ?_ ?_ _ | refine Below.trans ?_ (Below.mono (by assumption) ?_) | (simp; done) | (simp; omega) | omega)))) (by first | assumption | exact Rds.below (by assumption) (by (repeat' (first | exact Below.refl _ _ | assumption | refine Below.setCell ?_ ?_ _ | refine Below.drew ?_ | refine Below.alloc ?_ ?_ _ | refine Below.trans ?_ (Below.mono (by assumption) ?_) | (simp; done) | (simp; omega) | omega)))) (by omega) (by omega) (by omega) (by omega) ⟨rfl, rfl, rfl, rfl, rfl⟩).mono ?_; rintro e w' ⟨rfl, hb⟩; have hc := cellOf hb; have hf := frozOf hb; have hz := sizeOf hb; try simp at hz))
      exact RQ.mk rfl ⟨(by first | rfl | (simp [FS9_13]; done) | (simp [FS9_13, *]; done) | (simp [FS9_13, gotV]; done) | (simp [FS9_13, gotV]; omega)), fun h => absurd h (by decide)⟩ (by (repeat' (first | exact Below.refl _ _ | assumption | refine Below.setCell ?_ ?_ _ | refine Below.drew ?_ | refine Below.alloc ?_ ?_ _ | refine Below.trans ?_ (Below.mono (by assumption) ?_) | (simp; done) | (simp; omega) | omega)))
    | 4, _ =>
      injection ho with ho
      subst ho
      clear hl
      simp only [fillA, List.take, List.drop, put_none, Act.put, List.setIfInBounds_toArray, List.set_cons_zero, List.set_cons_succ, Nat.reduceAdd]
      have f3 := hf 3 (by decide) (by kernel_rfl)
      generalize vals 3 = v3 at *
      subst f3
      clear hf
      go_wp2_with (fail)
      exact RQ.mk rfl ⟨(by first | rfl | (simp [FS9_13]; done) | (simp [FS9_13, *]; done) | (simp [FS9_13, gotV]; done) | (simp [FS9_13, gotV]; omega)), fun h => absurd h (by decide)⟩ (Below.refl _ _)
  · intro vals w1 hb1 hf hd
    simp only [fillA, List.take, List.drop, put_none, Act.put, List.setIfInBounds_toArray, List.set_cons_zero, List.set_cons_succ, Nat.reduceAdd]
    clear hd
    have f0 := hf 0 (by decide)
    generalize vals 0 = v0 at *
    subst f0
    have f1 := hf 1 (by decide)
    generalize vals 1 = v1 at *
    subst f1
    have f2 := hf 2 (by decide)
    generalize vals 2 = v2 at *
    obtain ⟨gr1, gr1k, rfl, hgr1a, hgr1b, hgr1c, hgr1d⟩ := f2
    try simp at hgr1a hgr1c
    have hgr1r := hgr1b.rds
    have hgr1l := hgr1b.lt
    have hgr1s := hgr1d.rds
    have hgr1m := hgr1d.lt
    have Hgr1 := hid hgr1b
    have Hgr1k := hid hgr1d
    clear hgr1b hgr1d
    have f3 := hf 3 (by decide)
    generalize vals 3 = v3 at *
    subst f3
    have f4 := hf 4 (by decide)
    generalize vals 4 = v4 at *
    subst f4
    clear hf
    have hc1 := cellOf hb1
    have hf1 := frozOf hb1
    have hz1 := sizeOf hb1
    try simp at hz1
    go_wp2_with (fail)
    refine (c_laws_toIntS _ _ _ _ (by first | exact hr_pl | exact Rds.below hr_pl (by (repeat' (first | exact Below.refl _ _ | assumption | refine Below.setCell ?_ ?_ _ | refine Below.drew ?_ | refine Below.alloc ?_ ?_ _ | refine Below.trans ?_ (Below.mono (by assumption) ?_) | (simp; done) | (simp; omega) | omega)))) (by omega)).mono ?_
    rintro e W9 ⟨g9, rfl, hg9, ho9, hb9⟩
    have hF9 : FreshA cIn 1 3 _ _ _ _ _ := .inr ⟨g9, rfl, hg9, ho9⟩
    have hr9 := hF9.rds
    have hlo9 := hF9.lo
    have hhi9 := hF9.hi
    have HF9 := hid hF9
    clear hF9
    try simp at hlo9
    clear ho9 hg9
    have hc9 := cellOf hb9
    have hf9 := frozOf hb9
    have hz9 := sizeOf hb9
    try simp at hz9
    go_wp2_with (fail)
    refine (c_laws_eqIntS _ _ _ _ _ _ _ (by first | exact hr6 | exact Rds.below hr6 (by (repeat' (first | exact Below.refl _ _ | assumption | refine Below.setCell ?_ ?_ _ | refine Below.drew ?_ | refine Below.alloc ?_ ?_ _ | refine Below.trans ?_ (Below.mono (by assumption) ?_) | (simp; done) | (simp; omega) | omega)))) (by first | exact hr9 | exact Rds.below hr9 (by (repeat' (first | exact Below.refl _ _ | assumption | refine Below.setCell ?_ ?_ _ | refine Below.drew ?_ | refine Below.alloc ?_ ?_ _ | refine Below.trans ?_ (Below.mono (by assumption) ?_) | (simp; done) | (simp; omega) | omega)))) (by omega) (by omega)).mono ?_
    rintro e W10 ⟨rfl, hb10⟩
    have hc10 := cellOf hb10
    have hf10 := frozOf hb10
    have hz10 := sizeOf hb10
    try simp at hz10
    go_wp2_with (fail)
    refine (c_laws_markPumpTask _ _ _ _ _ _ _ _ _ _ _ _ _ (FreshA.below HF5a.out (by (repeat' (first | exact Below.refl _ _ | assumption | refine Below.setCell ?_ ?_ _ | refine Below.drew ?_ | refine Below.alloc ?_ ?_ _ | refine Below.trans ?_ (Below.mono (by assumption) ?_) | (simp; done) | (simp; omega) | omega)))) (FreshA.below HF5b.out (by (repeat' (first | exact Below.refl _ _ | assumption | refine Below.setCell ?_ ?_ _ | refine Below.drew ?_ | refine Below.alloc ?_ ?_ _ | refine Below.trans ?_ (Below.mono (by assumption) ?_) | (simp; done) | (simp; omega) | omega)))) (by omega) (by omega) (by omega)).mono ?_
    rintro e W11 ⟨W11a, rfl, hF11a, hg11a, hF11b, hg11b⟩
    have hb11a := below_of_grown hg11a hlo5a (by (try simp); omega)
    have hc11a := cellGrown hg11a hlo5a hhi5a
    have hf11a := frozGrown hg11a hlo5a hhi5a
    have hz11a := hg11a.size
    try simp at hz11a
    have hn11a_aT_3 := RdsN.past (Rds.toN hr_fs) (by first | exact Nat.le_refl _ | omega) (by (repeat' (first | exact Below.refl _ _ | assumption | refine Below.setCell ?_ ?_ _ | refine Below.drew ?_ | refine Below.alloc ?_ ?_ _ | refine Below.trans ?_ (Below.mono (by assumption) ?_) | (simp; done) | (simp; omega) | omega))) hg11a hlo5a (by omega)
    have hr11a_aT_3 := RdsN.rds hn11a_aT_3 (by omega)
    have hn11a_aT_4 := RdsN.past (Rds.toN hr_ps) (by first | exact Nat.le_refl _ | omega) (by (repeat' (first | exact Below.refl _ _ | assumption | refine Below.setCell ?_ ?_ _ | refine Below.drew ?_ | refine Below.alloc ?_ ?_ _ | refine Below.trans ?_ (Below.mono (by assumption) ?_) | (simp; done) | (simp; omega) | omega))) hg11a hlo5a (by omega)
    have hr11a_aT_4 := RdsN.rds hn11a_aT_4 (by omega)
    have hn11a_aPlan := RdsN.past (Rds.toN hr_pl) (by first | exact Nat.le_refl _ | omega) (by (repeat' (first | exact Below.refl _ _ | assumption | refine Below.setCell ?_ ?_ _ | refine Below.drew ?_ | refine Below.alloc ?_ ?_ _ | refine Below.trans ?_ (Below.mono (by assumption) ?_) | (simp; done) | (simp; omega) | omega))) hg11a hlo5a (by omega)
    have hr11a_aPlan := RdsN.rds hn11a_aPlan (by omega)
    have hn11a_w0 := RdsN.past (Rds.toN hr4) (by first | exact Nat.le_refl _ | omega) (by (repeat' (first | exact Below.refl _ _ | assumption | refine Below.setCell ?_ ?_ _ | refine Below.drew ?_ | refine Below.alloc ?_ ?_ _ | refine Below.trans ?_ (Below.mono (by assumption) ?_) | (simp; done) | (simp; omega) | omega))) hg11a hlo5a (by omega)
    have hr11a_w0 := RdsN.rds hn11a_w0 (by omega)
    have hF11a_m := FreshA.grown (FreshA.below HF5b.out (by (repeat' (first | exact Below.refl _ _ | assumption | refine Below.setCell ?_ ?_ _ | refine Below.drew ?_ | refine Below.alloc ?_ ?_ _ | refine Below.trans ?_ (Below.mono (by assumption) ?_) | (simp; done) | (simp; omega) | omega)))) hg11a (FreshA.apart (FreshA.below HF5b.out (by (repeat' (first | exact Below.refl _ _ | assumption | refine Below.setCell ?_ ?_ _ | refine Below.drew ?_ | refine Below.alloc ?_ ?_ _ | refine Below.trans ?_ (Below.mono (by assumption) ?_) | (simp; done) | (simp; omega) | omega)))) (FreshA.below HF5a.out (by (repeat' (first | exact Below.refl _ _ | assumption | refine Below.setCell ?_ ?_ _ | refine Below.drew ?_ | refine Below.alloc ?_ ?_ _ | refine Below.trans ?_ (Below.mono (by assumption) ?_) | (simp; done) | (simp; omega) | omega)))) (by decide))
    have hr11a_m := hF11a_m.rds
    have HF11a_m := hid hF11a_m
    clear hF11a_m
    have hF11a_x1 := FreshA.grown (FreshA.below HF6.out (by (repeat' (first | exact Below.refl _ _ | assumption | refine Below.setCell ?_ ?_ _ | refine Below.drew ?_ | refine Below.alloc ?_ ?_ _ | refine Below.trans ?_ (Below.mono (by assumption) ?_) | (simp; done) | (simp; omega) | omega)))) hg11a (apart_hl (Lo.mono hlo6 (by omega)) hhi5a)
    have hr11a_x1 := hF11a_x1.rds
    have HF11a_x1 := hid hF11a_x1
    clear hF11a_x1
    have hF11a_g0 := FreshA.grown (FreshA.below HF7.out (by (repeat' (first | exact Below.refl _ _ | assumption | refine Below.setCell ?_ ?_ _ | refine Below.drew ?_ | refine Below.alloc ?_ ?_ _ | refine Below.trans ?_ (Below.mono (by assumption) ?_) | (simp; done) | (simp; omega) | omega)))) hg11a (apart_hl (Lo.mono hlo7 (by omega)) hhi5a)
    have hr11a_g0 := hF11a_g0.rds
    have HF11a_g0 := hid hF11a_g0
    clear hF11a_g0
    have hr11a := hF11a.rds
    have HF11a := hid hF11a
    clear hF11a
    have hb11b := below_of_grown hg11b hlo5b (by (try simp); omega)
    have hc11b := cellGrown hg11b hlo5b hhi5b
    have hf11b := frozGrown hg11b hlo5b hhi5b
    have hz11b := hg11b.size
    try simp at hz11b
    have hn11b_aT_3 := RdsN.past (hn11a_aT_3) (by first | exact Nat.le_refl _ | omega) (by (repeat' (first | exact Below.refl _ _ | assumption | refine Below.setCell ?_ ?_ _ | refine Below.drew ?_ | refine Below.alloc ?_ ?_ _ | refine Below.trans ?_ (Below.mono (by assumption) ?_) | (simp; done) | (simp; omega) | omega))) hg11b hlo5b (by omega)
    have hr11b_aT_3 := RdsN.rds hn11b_aT_3 (by omega)
    have hn11b_aT_4 := RdsN.past (hn11a_aT_4) (by first | exact Nat.le_refl _ | omega) (by (repeat' (first | exact Below.refl _ _ | assumption | refine Below.setCell ?_ ?_ _ | refine Below.drew ?_ | refine Below.alloc ?_ ?_ _ | refine Below.trans ?_ (Below.mono (by assumption) ?_) | (simp; done) | (simp; omega) | omega))) hg11b hlo5b (by omega)
    have hr11b_aT_4 := RdsN.rds hn11b_aT_4 (by omega)
    have hn11b_aPlan := RdsN.past (hn11a_aPlan) (by first | exact Nat.le_refl _ | omega) (by (repeat' (first | exact Below.refl _ _ | assumption | refine Below.setCell ?_ ?_ _ | refine Below.drew ?_ | refine Below.alloc ?_ ?_ _ | refine Below.trans ?_ (Below.mono (by assumption) ?_) | (simp; done) | (simp; omega) | omega))) hg11b hlo5b (by omega)
    have hr11b_aPlan := RdsN.rds hn11b_aPlan (by omega)
    have hn11b_w0 := RdsN.past (hn11a_w0) (by first | exact Nat.le_refl _ | omega) (by (repeat' (first | exact Below.refl _ _ | assumption | refine Below.setCell ?_ ?_ _ | refine Below.drew ?_ | refine Below.alloc ?_ ?_ _ | refine Below.trans ?_ (Below.mono (by assumption) ?_) | (simp; done) | (simp; omega) | omega))) hg11b hlo5b (by omega)
    have hr11b_w0 := RdsN.rds hn11b_w0 (by omega)
    have hF11b_m := FreshA.grown (FreshA.below HF11a.out (by (repeat' (first | exact Below.refl _ _ | assumption | refine Below.setCell ?_ ?_ _ | refine Below.drew ?_ | refine Below.alloc ?_ ?_ _ | refine Below.trans ?_ (Below.mono (by assumption) ?_) | (simp; done) | (simp; omega) | omega)))) hg11b (FreshA.apart (FreshA.below HF11a.out (by (repeat' (first | exact Below.refl _ _ | assumption | refine Below.setCell ?_ ?_ _ | refine Below.drew ?_ | refine Below.alloc ?_ ?_ _ | refine Below.trans ?_ (Below.mono (by assumption) ?_) | (simp; done) | (simp; omega) | omega)))) (FreshA.below HF11a_m.out (by (repeat' (first | exact Below.refl _ _ | assumption | refine Below.setCell ?_ ?_ _ | refine Below.drew ?_ | refine Below.alloc ?_ ?_ _ | refine Below.trans ?_ (Below.mono (by assumption) ?_) | (simp; done) | (simp; omega) | omega)))) (by decide))
    have hr11b_m := hF11b_m.rds
    have HF11b_m := hid hF11b_m
    clear hF11b_m
    have hF11b_x1 := FreshA.grown (FreshA.below HF11a_x1.out (by (repeat' (first | exact Below.refl _ _ | assumption | refine Below.setCell ?_ ?_ _ | refine Below.drew ?_ | refine Below.alloc ?_ ?_ _ | refine Below.trans ?_ (Below.mono (by assumption) ?_) | (simp; done) | (simp; omega) | omega)))) hg11b (apart_hl (Lo.mono hlo6 (by omega)) hhi5b)
    have hr11b_x1 := hF11b_x1.rds
    have HF11b_x1 := hid hF11b_x1
    clear hF11b_x1
    have hF11b_g0 := FreshA.grown (FreshA.below HF11a_g0.out (by (repeat' (first | exact Below.refl _ _ | assumption | refine Below.setCell ?_ ?_ _ | refine Below.drew ?_ | refine Below.alloc ?_ ?_ _ | refine Below.trans ?_ (Below.mono (by assumption) ?_) | (simp; done) | (simp; omega) | omega)))) hg11b (apart_hl (Lo.mono hlo7 (by omega)) hhi5b)
    have hr11b_g0 := hF11b_g0.rds
    have HF11b_g0 := hid hF11b_g0
    clear hF11b_g0
    have hr11b := hF11b.rds
    have HF11b := hid hF11b
    clear hF11b
    go_wp2_with (fail)
    refine (c_laws_markIntS _ _ _ _ _ _ (FreshA.below HF11b_x1.out (by (repeat' (first | exact Below.refl _ _ | assumption | refine Below.setCell ?_ ?_ _ | refine Below.drew ?_ | refine Below.alloc ?_ ?_ _ | refine Below.trans ?_ (Below.mono (by assumption) ?_) | (simp; done) | (simp; omega) | omega)))) (by omega) (by omega)).mono ?_
    rintro e W12 ⟨rfl, hF12, hg12⟩
    have hb12 := below_of_grown hg12 hlo6 (by (try simp); omega)
    have hc12 := cellGrown hg12 hlo6 hhi6
    have hf12 := frozGrown hg12 hlo6 hhi6
    have hz12 := hg12.size
    try simp at hz12
    have hn12_aT_3 := RdsN.past (hn11b_aT_3) (by first | exact Nat.le_refl _ | omega) (by (repeat' (first | exact Below.refl _ _ | assumption | refine Below.setCell ?_ ?_ _ | refine Below.drew ?_ | refine Below.alloc ?_ ?_ _ | refine Below.trans ?_ (Below.mono (by assumption) ?_) | (simp; done) | (simp; omega) | omega))) hg12 hlo6 (by omega)
    have hr12_aT_3 := RdsN.rds hn12_aT_3 (by omega)
    have hn12_aT_4 := RdsN.past (hn11b_aT_4) (by first | exact Nat.le_refl _ | omega) (by (repeat' (first | exact Below.refl _ _ | assumption | refine Below.setCell ?_ ?_ _ | refine Below.drew ?_ | refine Below.alloc ?_ ?_ _ | refine Below.trans ?_ (Below.mono (by assumption) ?_) | (simp; done) | (simp; omega) | omega))) hg12 hlo6 (by omega)
    have hr12_aT_4 := RdsN.rds hn12_aT_4 (by omega)
    have hn12_aPlan := RdsN.past (hn11b_aPlan) (by first | exact Nat.le_refl _ | omega) (by (repeat' (first | exact Below.refl _ _ | assumption | refine Below.setCell ?_ ?_ _ | refine Below.drew ?_ | refine Below.alloc ?_ ?_ _ | refine Below.trans ?_ (Below.mono (by assumption) ?_) | (simp; done) | (simp; omega) | omega))) hg12 hlo6 (by omega)
    have hr12_aPlan := RdsN.rds hn12_aPlan (by omega)
    have hn12_w0 := RdsN.past (hn11b_w0) (by first | exact Nat.le_refl _ | omega) (by (repeat' (first | exact Below.refl _ _ | assumption | refine Below.setCell ?_ ?_ _ | refine Below.drew ?_ | refine Below.alloc ?_ ?_ _ | refine Below.trans ?_ (Below.mono (by assumption) ?_) | (simp; done) | (simp; omega) | omega))) hg12 hlo6 (by omega)
    have hr12_w0 := RdsN.rds hn12_w0 (by omega)
    have hn12_x0_3 := RdsN.past (RdsN.ofHi hr11b_m hhi5a) (by first | exact Nat.le_refl _ | omega) (by (repeat' (first | exact Below.refl _ _ | assumption | refine Below.setCell ?_ ?_ _ | refine Below.drew ?_ | refine Below.alloc ?_ ?_ _ | refine Below.trans ?_ (Below.mono (by assumption) ?_) | (simp; done) | (simp; omega) | omega))) hg12 hlo6 (by omega)
    have hr12_x0_3 := RdsN.rds hn12_x0_3 (by omega)
    have hn12_x0_4 := RdsN.past (RdsN.ofHi hr11b hhi5b) (by first | exact Nat.le_refl _ | omega) (by (repeat' (first | exact Below.refl _ _ | assumption | refine Below.setCell ?_ ?_ _ | refine Below.drew ?_ | refine Below.alloc ?_ ?_ _ | refine Below.trans ?_ (Below.mono (by assumption) ?_) | (simp; done) | (simp; omega) | omega))) hg12 hlo6 (by omega)
    have hr12_x0_4 := RdsN.rds hn12_x0_4 (by omega)
    have hF12_g0 := FreshA.grown (FreshA.below HF11b_g0.out (by (repeat' (first | exact Below.refl _ _ | assumption | refine Below.setCell ?_ ?_ _ | refine Below.drew ?_ | refine Below.alloc ?_ ?_ _ | refine Below.trans ?_ (Below.mono (by assumption) ?_) | (simp; done) | (simp; omega) | omega)))) hg12 (apart_hl (Lo.mono hlo7 (by omega)) hhi6)
    have hr12_g0 := hF12_g0.rds
    have HF12_g0 := hid hF12_g0
    clear hF12_g0
    have hr12 := hF12.rds
    have HF12 := hid hF12
    clear hF12
    go_wp2_with (fail)
    refine (c_laws_eqIntS _ _ _ _ _ _ _ (by first | exact hr12_g0 | exact Rds.below hr12_g0 (by (repeat' (first | exact Below.refl _ _ | assumption | refine Below.setCell ?_ ?_ _ | refine Below.drew ?_ | refine Below.alloc ?_ ?_ _ | refine Below.trans ?_ (Below.mono (by assumption) ?_) | (simp; done) | (simp; omega) | omega)))) (by first | exact hr12_w0 | exact Rds.below hr12_w0 (by (repeat' (first | exact Below.refl _ _ | assumption | refine Below.setCell ?_ ?_ _ | refine Below.drew ?_ | refine Below.alloc ?_ ?_ _ | refine Below.trans ?_ (Below.mono (by assumption) ?_) | (simp; done) | (simp; omega) | omega)))) (by omega) (by omega)).mono ?_
    rintro e W13 ⟨rfl, hb13⟩
    have hc13 := cellOf hb13
    have hf13 := frozOf hb13
    have hz13 := sizeOf hb13
    try simp at hz13
    go_wp2_with (fail)
    refine (c_laws_markIntS _ _ _ _ _ _ (FreshA.below HF12_g0.out (by (repeat' (first | exact Below.refl _ _ | assumption | refine Below.setCell ?_ ?_ _ | refine Below.drew ?_ | refine Below.alloc ?_ ?_ _ | refine Below.trans ?_ (Below.mono (by assumption) ?_) | (simp; done) | (simp; omega) | omega)))) (by omega) (by omega)).mono ?_
    rintro e W14 ⟨rfl, hF14, hg14⟩
    have hb14 := below_of_grown hg14 hlo7 (by (try simp); omega)
    have hc14 := cellGrown hg14 hlo7 hhi7
    have hf14 := frozGrown hg14 hlo7 hhi7
    have hz14 := hg14.size
    try simp at hz14
    have hn14_aT_3 := RdsN.past (hn12_aT_3) (by first | exact Nat.le_refl _ | omega) (by (repeat' (first | exact Below.refl _ _ | assumption | refine Below.setCell ?_ ?_ _ | refine Below.drew ?_ | refine Below.alloc ?_ ?_ _ | refine Below.trans ?_ (Below.mono (by assumption) ?_) | (simp; done) | (simp; omega) | omega))) hg14 hlo7 (by omega)
    have hr14_aT_3 := RdsN.rds hn14_aT_3 (by omega)
    have hn14_aT_4 := RdsN.past (hn12_aT_4) (by first | exact Nat.le_refl _ | omega) (by (repeat' (first | exact Below.refl _ _ | assumption | refine Below.setCell ?_ ?_ _ | refine Below.drew ?_ | refine Below.alloc ?_ ?_ _ | refine Below.trans ?_ (Below.mono (by assumption) ?_) | (simp; done) | (simp; omega) | omega))) hg14 hlo7 (by omega)
    have hr14_aT_4 := RdsN.rds hn14_aT_4 (by omega)
    have hn14_aPlan := RdsN.past (hn12_aPlan) (by first | exact Nat.le_refl _ | omega) (by (repeat' (first | exact Below.refl _ _ | assumption | refine Below.setCell ?_ ?_ _ | refine Below.drew ?_ | refine Below.alloc ?_ ?_ _ | refine Below.trans ?_ (Below.mono (by assumption) ?_) | (simp; done) | (simp; omega) | omega))) hg14 hlo7 (by omega)
    have hr14_aPlan := RdsN.rds hn14_aPlan (by omega)
    have hn14_w0 := RdsN.past (hn12_w0) (by first | exact Nat.le_refl _ | omega) (by (repeat' (first | exact Below.refl _ _ | assumption | refine Below.setCell ?_ ?_ _ | refine Below.drew ?_ | refine Below.alloc ?_ ?_ _ | refine Below.trans ?_ (Below.mono (by assumption) ?_) | (simp; done) | (simp; omega) | omega))) hg14 hlo7 (by omega)
    have hr14_w0 := RdsN.rds hn14_w0 (by omega)
    have hn14_x0_3 := RdsN.past (hn12_x0_3) (by first | exact Nat.le_refl _ | omega) (by (repeat' (first | exact Below.refl _ _ | assumption | refine Below.setCell ?_ ?_ _ | refine Below.drew ?_ | refine Below.alloc ?_ ?_ _ | refine Below.trans ?_ (Below.mono (by assumption) ?_) | (simp; done) | (simp; omega) | omega))) hg14 hlo7 (by omega)
    have hr14_x0_3 := RdsN.rds hn14_x0_3 (by omega)
    have hn14_x0_4 := RdsN.past (hn12_x0_4) (by first | exact Nat.le_refl _ | omega) (by (repeat' (first | exact Below.refl _ _ | assumption | refine Below.setCell ?_ ?_ _ | refine Below.drew ?_ | refine Below.alloc ?_ ?_ _ | refine Below.trans ?_ (Below.mono (by assumption) ?_) | (simp; done) | (simp; omega) | omega))) hg14 hlo7 (by omega)
    have hr14_x0_4 := RdsN.rds hn14_x0_4 (by omega)
    have hn14_x1 := RdsN.past (RdsN.ofHi hr12 hhi6) (by first | exact Nat.le_refl _ | omega) (by (repeat' (first | exact Below.refl _ _ | assumption | refine Below.setCell ?_ ?_ _ | refine Below.drew ?_ | refine Below.alloc ?_ ?_ _ | refine Below.trans ?_ (Below.mono (by assumption) ?_) | (simp; done) | (simp; omega) | omega))) hg14 hlo7 (by omega)
    have hr14_x1 := RdsN.rds hn14_x1 (by omega)
    have hr14 := hF14.rds
    have HF14 := hid hF14
    clear hF14
    go_wp2_with (fail)
    refine (c_laws_heldIntS _ _ _ _ _ (by first | exact hr14 | exact Rds.below hr14 (by (repeat' (first | exact Below.refl _ _ | assumption | refine Below.setCell ?_ ?_ _ | refine Below.drew ?_ | refine Below.alloc ?_ ?_ _ | refine Below.trans ?_ (Below.mono (by assumption) ?_) | (simp; done) | (simp; omega) | omega)))) (by omega) (by omega)).mono ?_
    rintro e W15 ⟨rfl, hb15⟩
    have hc15 := cellOf hb15
    have hf15 := frozOf hb15
    have hz15 := sizeOf hb15
    try simp at hz15
    go_wp2_with (fail)
    refine (c_laws_toPumpTask l u v _ _ _ _ _ _ _ (by first | exact hr14_aT_3 | exact Rds.below hr14_aT_3 (by (repeat' (first | exact Below.refl _ _ | assumption | refine Below.setCell ?_ ?_ _ | refine Below.drew ?_ | refine Below.alloc ?_ ?_ _ | refine Below.trans ?_ (Below.mono (by assumption) ?_) | (simp; done) | (simp; omega) | omega)))) (by omega) (by first | exact hr14_aT_4 | exact Rds.below hr14_aT_4 (by (repeat' (first | exact Below.refl _ _ | assumption | refine Below.setCell ?_ ?_ _ | refine Below.drew ?_ | refine Below.alloc ?_ ?_ _ | refine Below.trans ?_ (Below.mono (by assumption) ?_) | (simp; done) | (simp; omega) | omega)))) (by omega)).mono ?_
    rintro e W16 ⟨g16a, g16b, rfl, hg16a, ho16a, hg16b, ho16b, hb16⟩
    have hF16a : FreshA cIn 1 3 _ _ _ _ _ := .inr ⟨g16a, rfl, hg16a, ho16a⟩
    have hr16a := hF16a.rds
    have hlo16a := hF16a.lo
    have hhi16a := hF16a.hi
    have HF16a := hid hF16a
    clear hF16a
    try simp at hlo16a
    clear ho16a hg16a
    have hF16b : FreshA cPu 3 71 _ _ _ _ _ := .inr ⟨g16b, rfl, hg16b, ho16b⟩
    have hr16b := hF16b.rds
    have hlo16b := hF16b.lo
    have hhi16b := hF16b.hi
    have HF16b := hid hF16b
    clear hF16b
    try simp at hlo16b
    clear ho16b hg16b
    have hc16 := cellOf hb16
    have hf16 := frozOf hb16
    have hz16 := sizeOf hb16
    try simp at hz16
    go_wp2_with (fail)
    refine (c_laws_toIntS _ _ _ _ (by first | exact hr14_aPlan | exact Rds.below hr14_aPlan (by (repeat' (first | exact Below.refl _ _ | assumption | refine Below.setCell ?_ ?_ _ | refine Below.drew ?_ | refine Below.alloc ?_ ?_ _ | refine Below.trans ?_ (Below.mono (by assumption) ?_) | (simp; done) | (simp; omega) | omega)))) (by omega)).mono ?_
    rintro e W17 ⟨g17, rfl, hg17, ho17, hb17⟩
    have hF17 : FreshA cIn 1 3 _ _ _ _ _ := .inr ⟨g17, rfl, hg17, ho17⟩
    have hr17 := hF17.rds
    have hlo17 := hF17.lo
    have hhi17 := hF17.hi
    have HF17 := hid hF17
    clear hF17
    try simp at hlo17
    clear ho17 hg17
    have hc17 := cellOf hb17
    have hf17 := frozOf hb17
    have hz17 := sizeOf hb17
    try simp at hz17
    go_wp2_with (fail)
    refine (c_impl_LevelsWith _ _ _ _ _ _ _ _ _ _ _ _ _ (by first | exact hr16a | exact Rds.below hr16a (by (repeat' (first | exact Below.refl _ _ | assumption | refine Below.setCell ?_ ?_ _ | refine Below.drew ?_ | refine Below.alloc ?_ ?_ _ | refine Below.trans ?_ (Below.mono (by assumption) ?_) | (simp; done) | (simp; omega) | omega)))) (by omega) (by first | exact hr16b | exact Rds.below hr16b (by (repeat' (first | exact Below.refl _ _ | assumption | refine Below.setCell ?_ ?_ _ | refine Below.drew ?_ | refine Below.alloc ?_ ?_ _ | refine Below.trans ?_ (Below.mono (by assumption) ?_) | (simp; done) | (simp; omega) | omega)))) (by omega) (by first | exact hr17 | exact Rds.below hr17 (by (repeat' (first | exact Below.refl _ _ | assumption | refine Below.setCell ?_ ?_ _ | refine Below.drew ?_ | refine Below.alloc ?_ ?_ _ | refine Below.trans ?_ (Below.mono (by assumption) ?_) | (simp; done) | (simp; omega) | omega)))) (by omega) ).mono ?_
    rintro e W18 ⟨A18, cp18, rfl, hF18, hb18⟩
    have hr18 := hF18.rds
    have hlo18 := hF18.lo
    have hhi18 := hF18.hi
    have HF18 := hid hF18
    clear hF18
    try simp at hlo18
    have hc18 := cellOf hb18
    have hf18 := frozOf hb18
    have hz18 := sizeOf hb18
    try simp at hz18
    go_wp2_with (fail)
    refine (c_laws_eqIntS _ _ _ _ _ _ _ (by first | exact hr18 | exact Rds.below hr18 (by (repeat' (first | exact Below.refl _ _ | assumption | refine Below.setCell ?_ ?_ _ | refine Below.drew ?_ | refine Below.alloc ?_ ?_ _ | refine Below.trans ?_ (Below.mono (by assumption) ?_) | (simp; done) | (simp; omega) | omega)))) (by first | exact hr14_w0 | exact Rds.below hr14_w0 (by (repeat' (first | exact Below.refl _ _ | assumption | refine Below.setCell ?_ ?_ _ | refine Below.drew ?_ | refine Below.alloc ?_ ?_ _ | refine Below.trans ?_ (Below.mono (by assumption) ?_) | (simp; done) | (simp; omega) | omega)))) (by omega) (by omega)).mono ?_
    rintro e W19 ⟨rfl, hb19⟩
    have hc19 := cellOf hb19
    have hf19 := frozOf hb19
    have hz19 := sizeOf hb19
    try simp at hz19
    go_wp2_with (fail)
    refine (c_laws_heldIntS _ _ _ _ _ (by first | exact hr14 | exact Rds.below hr14 (by (repeat' (first | exact Below.refl _ _ | assumption | refine Below.setCell ?_ ?_ _ | refine Below.drew ?_ | refine Below.alloc ?_ ?_ _ | refine Below.trans ?_ (Below.mono (by assumption) ?_) | (simp; done) | (simp; omega) | omega)))) (by omega) (by omega)).mono ?_
    rintro e W20 ⟨rfl, hb20⟩
    have hc20 := cellOf hb20
    have hf20 := frozOf hb20
    have hz20 := sizeOf hb20
    try simp at hz20
    go_wp2_with (fail)
    all_goals go_ret
    all_goals exact ⟨rfl, by (repeat' (first | exact Below.refl _ _ | assumption | refine Below.setCell ?_ ?_ _ | refine Below.drew ?_ | refine Below.alloc ?_ ?_ _ | refine Below.trans ?_ (Below.mono (by assumption) ?_) | (simp; done) | (simp; omega) | omega))⟩

end Go.Proofs.Ytpaclngjmdacjaa
