import Derived.Test.YteciijnpfapmhaaK8i
import Derived.Test.YteciijnpfapmhaaK8s
import Derived.Test.YteciijnpfapmhaaG7e
import Derived.Test.YteciijnpfapmhaaG7t
import Derived.Test.YteciijnpfapmhaaG9
import Derived.Test.YteciijnpfapmhaaG7m
import Derived.Test.YteciijnpfapmhaaG8
namespace Go.Proofs.Yteciijnpfapmhaa
set_option linter.unusedSimpArgs false
set_option linter.unusedVariables false
open Go.RowKit

def FS9_16 (d : Int) (A : Option Addr) (xs : List (Int × Int)) (n0 cap g6 : Nat) (W6 : World) (w W0 : World) (iq : Nat) (v : Value) (w1 : World) : Prop := match iq with
  | 0 => v = .agg #[.int .i64 (d), .slice (some ⟨g6, 0, none⟩) n0 n0]
  | 1 => v = .agg #[.int .i64 (d), .slice A n0 cap]
  | 2 => FreshBr W0.heap.size d xs v w1
  | 3 => v = .bool (true)
  | 4 => v = .bool (false)
  | _ => True

set_option maxRecDepth 100000 in
set_option maxHeartbeats 8000000 in
theorem c_laws_FnExactWaitingSum (d : Int) (A : Option Addr) (xs : List (Int × Int)) (cap : Nat) (B : Option Addr) (rs : List Int) (capr : Nat) (p : Int) (C : Option Addr) (pl : List Int) (capp : Nat) (w : World) (hr_xs : Rds cIv 2 w A xs) (hn : xs.length ≤ 9223372036854775807) (hr_rs : Rds cIn 1 w B rs) (hnr : rs.length ≤ 9223372036854775807) (hr_pl : Rds cIn 1 w C pl) (hnp : pl.length ≤ 9223372036854775807) :
    Calls Try.prog 9 #[.agg #[.int .i64 d, .slice A xs.length cap], .slice B rs.length capr, .int .i64 p, .slice C pl.length capp] w fun e w' => e = .returned (.bool true) ∧ Below w.heap.size w w' := by
  by_cases hsz_rs : rs.length ≤ 1048576
  rotate_left
  · go_enter Try.func9, Try.ntmps9
    go_wp2_with (go_at_call 14; refine (c_laws_szBridge _ _ _ _ _ _ (by omega) (by omega)).mono ?_; rintro e w' ⟨rfl, hb⟩; have hc := cellOf hb; have hf := frozOf hb; have hz := sizeOf hb; try simp at hz)
    all_goals go_ret
    all_goals exact ⟨rfl, by (repeat' (first | exact Below.refl _ _ | assumption | refine Below.setCell ?_ ?_ _ | refine Below.drew ?_ | refine Below.alloc ?_ ?_ _ | refine Below.trans ?_ (Below.mono (by assumption) ?_) | (simp; done) | (simp; omega) | omega))⟩
  by_cases hsz_pl : pl.length ≤ 1048576
  rotate_left
  · go_enter Try.func9, Try.ntmps9
    go_wp2_with (go_at_call 14; refine (c_laws_szBridge _ _ _ _ _ _ (by omega) (by omega)).mono ?_; rintro e w' ⟨rfl, hb⟩; have hc := cellOf hb; have hf := frozOf hb; have hz := sizeOf hb; try simp at hz)
    all_goals go_ret
    all_goals exact ⟨rfl, by (repeat' (first | exact Below.refl _ _ | assumption | refine Below.setCell ?_ ?_ _ | refine Below.drew ?_ | refine Below.alloc ?_ ?_ _ | refine Below.trans ?_ (Below.mono (by assumption) ?_) | (simp; done) | (simp; omega) | omega))⟩
  by_cases hsz_xs : xs.length ≤ 1048576
  rotate_left
  · go_enter Try.func9, Try.ntmps9
    go_wp2_with (go_at_call 14; refine (c_laws_szBridge _ _ _ _ _ _ (by omega) (by omega)).mono ?_; rintro e w' ⟨rfl, hb⟩; have hc := cellOf hb; have hf := frozOf hb; have hz := sizeOf hb; try simp at hz)
    all_goals go_ret
    all_goals exact ⟨rfl, by (repeat' (first | exact Below.refl _ _ | assumption | refine Below.setCell ?_ ?_ _ | refine Below.drew ?_ | refine Below.alloc ?_ ?_ _ | refine Below.trans ?_ (Below.mono (by assumption) ?_) | (simp; done) | (simp; omega) | omega))⟩
  go_enter Try.func9, Try.ntmps9
  go_wp2_with (fail)
  refine (c_laws_szBridge _ _ _ _ _ _ (by omega) (by omega)).mono ?_
  rintro e W1 ⟨rfl, hb1⟩
  have hc1 := cellOf hb1
  have hf1 := frozOf hb1
  have hz1 := sizeOf hb1
  try simp at hz1
  go_wp2_with (fail)
  refine (c_laws_toBridge d _ _ _ _ (by first | exact hr_xs | exact Rds.below hr_xs (by (repeat' (first | exact Below.refl _ _ | assumption | refine Below.setCell ?_ ?_ _ | refine Below.drew ?_ | refine Below.alloc ?_ ?_ _ | refine Below.trans ?_ (Below.mono (by assumption) ?_) | (simp; done) | (simp; omega) | omega)))) (by omega)).mono ?_
  rintro e W2 ⟨g2, rfl, hg2, ho2, hb2⟩
  have hF2 : FreshA cIv 2 50 _ _ _ _ _ := .inr ⟨g2, rfl, hg2, ho2⟩
  have hr2 := hF2.rds
  have hlo2 := hF2.lo
  have hhi2 := hF2.hi
  have HF2 := hid hF2
  clear hF2
  try simp at hlo2
  clear ho2 hg2
  have hc2 := cellOf hb2
  have hf2 := frozOf hb2
  have hz2 := sizeOf hb2
  try simp at hz2
  go_wp2_with (fail)
  refine (c_laws_toIntS _ _ _ _ (by first | exact hr_rs | exact Rds.below hr_rs (by (repeat' (first | exact Below.refl _ _ | assumption | refine Below.setCell ?_ ?_ _ | refine Below.drew ?_ | refine Below.alloc ?_ ?_ _ | refine Below.trans ?_ (Below.mono (by assumption) ?_) | (simp; done) | (simp; omega) | omega)))) (by omega)).mono ?_
  rintro e W3 ⟨g3, rfl, hg3, ho3, hb3⟩
  have hF3 : FreshA cIn 1 3 _ _ _ _ _ := .inr ⟨g3, rfl, hg3, ho3⟩
  have hr3 := hF3.rds
  have hlo3 := hF3.lo
  have hhi3 := hF3.hi
  have HF3 := hid hF3
  clear hF3
  try simp at hlo3
  clear ho3 hg3
  have hc3 := cellOf hb3
  have hf3 := frozOf hb3
  have hz3 := sizeOf hb3
  try simp at hz3
  go_wp2_with (fail)
  refine (c_laws_toIntS _ _ _ _ (by first | exact hr_pl | exact Rds.below hr_pl (by (repeat' (first | exact Below.refl _ _ | assumption | refine Below.setCell ?_ ?_ _ | refine Below.drew ?_ | refine Below.alloc ?_ ?_ _ | refine Below.trans ?_ (Below.mono (by assumption) ?_) | (simp; done) | (simp; omega) | omega)))) (by omega)).mono ?_
  rintro e W4 ⟨g4, rfl, hg4, ho4, hb4⟩
  have hF4 : FreshA cIn 1 3 _ _ _ _ _ := .inr ⟨g4, rfl, hg4, ho4⟩
  have hr4 := hF4.rds
  have hlo4 := hF4.lo
  have hhi4 := hF4.hi
  have HF4 := hid hF4
  clear hF4
  try simp at hlo4
  clear ho4 hg4
  have hc4 := cellOf hb4
  have hf4 := frozOf hb4
  have hz4 := sizeOf hb4
  try simp at hz4
  go_wp2_with (fail)
  refine (c_spec_WaitingSum _ _ _ _ _ _ _ _ _ _ _ _ (by first | exact hr2 | exact Rds.below hr2 (by (repeat' (first | exact Below.refl _ _ | assumption | refine Below.setCell ?_ ?_ _ | refine Below.drew ?_ | refine Below.alloc ?_ ?_ _ | refine Below.trans ?_ (Below.mono (by assumption) ?_) | (simp; done) | (simp; omega) | omega)))) (by omega) (by first | exact hr3 | exact Rds.below hr3 (by (repeat' (first | exact Below.refl _ _ | assumption | refine Below.setCell ?_ ?_ _ | refine Below.drew ?_ | refine Below.alloc ?_ ?_ _ | refine Below.trans ?_ (Below.mono (by assumption) ?_) | (simp; done) | (simp; omega) | omega)))) (by omega) (by first | exact hr4 | exact Rds.below hr4 (by (repeat' (first | exact Below.refl _ _ | assumption | refine Below.setCell ?_ ?_ _ | refine Below.drew ?_ | refine Below.alloc ?_ ?_ _ | refine Below.trans ?_ (Below.mono (by assumption) ?_) | (simp; done) | (simp; omega) | omega)))) (by omega) ).mono ?_
  rintro e W5 ⟨rfl, hb5⟩
  have hc5 := cellOf hb5
  have hf5 := frozOf hb5
  have hz5 := sizeOf hb5
  try simp at hz5
  go_wp2_with (fail)
  refine (c_laws_toBridge d _ _ _ _ (by first | exact hr_xs | exact Rds.below hr_xs (by (repeat' (first | exact Below.refl _ _ | assumption | refine Below.setCell ?_ ?_ _ | refine Below.drew ?_ | refine Below.alloc ?_ ?_ _ | refine Below.trans ?_ (Below.mono (by assumption) ?_) | (simp; done) | (simp; omega) | omega)))) (by omega)).mono ?_
  rintro e W6 ⟨g6, rfl, hg6, ho6, hb6⟩
  have hF6 : FreshA cIv 2 50 _ _ _ _ _ := .inr ⟨g6, rfl, hg6, ho6⟩
  have hr6 := hF6.rds
  have hlo6 := hF6.lo
  have hhi6 := hF6.hi
  have HF6 := hid hF6
  clear hF6
  try simp at hlo6
  clear ho6 hg6
  have hc6 := cellOf hb6
  have hf6 := frozOf hb6
  have hz6 := sizeOf hb6
  try simp at hz6
  go_wp2_with (fail)
  refine (c_laws_toIntS _ _ _ _ (by first | exact hr_rs | exact Rds.below hr_rs (by (repeat' (first | exact Below.refl _ _ | assumption | refine Below.setCell ?_ ?_ _ | refine Below.drew ?_ | refine Below.alloc ?_ ?_ _ | refine Below.trans ?_ (Below.mono (by assumption) ?_) | (simp; done) | (simp; omega) | omega)))) (by omega)).mono ?_
  rintro e W7 ⟨g7, rfl, hg7, ho7, hb7⟩
  have hF7 : FreshA cIn 1 3 _ _ _ _ _ := .inr ⟨g7, rfl, hg7, ho7⟩
  have hr7 := hF7.rds
  have hlo7 := hF7.lo
  have hhi7 := hF7.hi
  have HF7 := hid hF7
  clear hF7
  try simp at hlo7
  clear ho7 hg7
  have hc7 := cellOf hb7
  have hf7 := frozOf hb7
  have hz7 := sizeOf hb7
  try simp at hz7
  go_wp2_with (fail)
  refine (c_laws_toIntS _ _ _ _ (by first | exact hr_pl | exact Rds.below hr_pl (by (repeat' (first | exact Below.refl _ _ | assumption | refine Below.setCell ?_ ?_ _ | refine Below.drew ?_ | refine Below.alloc ?_ ?_ _ | refine Below.trans ?_ (Below.mono (by assumption) ?_) | (simp; done) | (simp; omega) | omega)))) (by omega)).mono ?_
  rintro e W8 ⟨g8, rfl, hg8, ho8, hb8⟩
  have hF8 : FreshA cIn 1 3 _ _ _ _ _ := .inr ⟨g8, rfl, hg8, ho8⟩
  have hr8 := hF8.rds
  have hlo8 := hF8.lo
  have hhi8 := hF8.hi
  have HF8 := hid hF8
  clear hF8
  try simp at hlo8
  clear ho8 hg8
  have hc8 := cellOf hb8
  have hf8 := frozOf hb8
  have hz8 := sizeOf hb8
  try simp at hz8
  go_wp2_with (fail)
  refine (c_impl_WaitingSum _ _ _ _ _ _ _ _ _ _ _ _ (by first | exact hr6 | exact Rds.below hr6 (by (repeat' (first | exact Below.refl _ _ | assumption | refine Below.setCell ?_ ?_ _ | refine Below.drew ?_ | refine Below.alloc ?_ ?_ _ | refine Below.trans ?_ (Below.mono (by assumption) ?_) | (simp; done) | (simp; omega) | omega)))) (by omega) (by first | exact hr7 | exact Rds.below hr7 (by (repeat' (first | exact Below.refl _ _ | assumption | refine Below.setCell ?_ ?_ _ | refine Below.drew ?_ | refine Below.alloc ?_ ?_ _ | refine Below.trans ?_ (Below.mono (by assumption) ?_) | (simp; done) | (simp; omega) | omega)))) (by omega) (by first | exact hr8 | exact Rds.below hr8 (by (repeat' (first | exact Below.refl _ _ | assumption | refine Below.setCell ?_ ?_ _ | refine Below.drew ?_ | refine Below.alloc ?_ ?_ _ | refine Below.trans ?_ (Below.mono (by assumption) ?_) | (simp; done) | (simp; omega) | omega)))) (by omega) ).mono ?_
  rintro e W9 ⟨rfl, hb9⟩
  have hc9 := cellOf hb9
  have hf9 := frozOf hb9
  have hz9 := sizeOf hb9
  try simp at hz9
  go_wp2_with (fail)
  refine wp_region_w (n := 5) [] [] (FS9_16 d A xs xs.length cap g6 W6 w) rfl (by kernel_rfl) (fun _ _ d _ _ h => by cases d <;> exact h) ?_ ?_ ?_ ?_ ?_ ?_
  · intro iq
    match iq with
    | 0 | 1 | 3 | 4 => exact Stable.const _
    | 2 => exact FreshBr.stable
    | n + 5 => exact Stable.const _
  · intro iq hi
    exact absurd hi (by simp)
  · intro iq hi
    exact absurd hi (by simp)
  · intro iq o hi hl ho vals w1 hb1 hf
    exact absurd hl (by simp)
  · intro iq o hi hl ho vals w1 hb1 hf
    match iq, hi with
    | 0, _ =>
      injection ho with ho
      subst ho
      clear hl
      simp only [fillA, List.take, List.drop, put_none, Act.put, List.setIfInBounds_toArray, List.set_cons_zero, List.set_cons_succ, Nat.reduceAdd]
      clear hf
      have hc1 := cellOf hb1
      have hf1 := frozOf hb1
      have hz1 := sizeOf hb1
      try simp at hz1
      go_wp2_with (fail)
      exact RQ.mk rfl ⟨(by first | rfl | (simp [FS9_16]; done) | (simp [FS9_16, *]; done) | (simp [FS9_16, gotV]; done) | (simp [FS9_16, gotV]; omega)), fun h => absurd h (by decide)⟩ (Below.refl _ _)
    | 1, _ =>
      injection ho with ho
      subst ho
      clear hl
      simp only [fillA, List.take, List.drop, put_none, Act.put, List.setIfInBounds_toArray, List.set_cons_zero, List.set_cons_succ, Nat.reduceAdd]
      clear hf
      have hc1 := cellOf hb1
      have hf1 := frozOf hb1
      have hz1 := sizeOf hb1
      try simp at hz1
      go_wp2_with (fail)
      exact RQ.mk rfl ⟨(by first | rfl | (simp [FS9_16]; done) | (simp [FS9_16, *]; done) | (simp [FS9_16, gotV]; done) | (simp [FS9_16, gotV]; omega)), fun h => absurd h (by decide)⟩ (Below.refl _ _)
    | 2, _ =>
      injection ho with ho
      subst ho
      clear hl
      simp only [fillA, List.take, List.drop, put_none, Act.put, List.setIfInBounds_toArray, List.set_cons_zero, List.set_cons_succ, Nat.reduceAdd]
      have f1 := hf 1 (by decide) (by kernel_rfl)
      generalize vals 1 = v1 at *
      subst f1
      clear hf
      have hc1 := cellOf hb1
      have hf1 := frozOf hb1
      have hz1 := sizeOf hb1
      try simp at hz1
      go_wp2_with (first | (go_at_call 16; refine (c_laws_toBridge _ _ _ _ _ (by first | assumption | exact Rds.below (by assumption) (by (repeat' (first | exact Below.refl _ _ | assumption | refine Below.setCell ?_ ?_ _ | refine Below.drew ?_ | refine Below.alloc ?_ ?_ _ | refine Below.trans ?_ (Below.mono (by assumption) ?_) | (simp; done) | (simp; omega) | omega)))) (by omega)).mono ?_; rintro e w' ⟨g, rfl, hg, ho, hb⟩; have hr := ho.rds; have hlo := ho.lt; have HO := hid ho; clear ho; have hc := cellOf hb; have hf := frozOf hb; have hz := sizeOf hb; try simp at hz))
      exact RQ.mk rfl ⟨⟨_, rfl, (by first | omega | (simp at *; omega)), HO.out⟩, fun h => absurd h (by decide)⟩ (by (repeat' (first | exact Below.refl _ _ | assumption | refine Below.setCell ?_ ?_ _ | refine Below.drew ?_ | refine Below.alloc ?_ ?_ _ | refine Below.trans ?_ (Below.mono (by assumption) ?_) | (simp; done) | (simp; omega) | omega)))
    | 3, _ =>
      injection ho with ho
      subst ho
      clear hl
      simp only [fillA, List.take, List.drop, put_none, Act.put, List.setIfInBounds_toArray, List.set_cons_zero, List.set_cons_succ, Nat.reduceAdd]
      have f0 := hf 0 (by decide) (by kernel_rfl)
      generalize vals 0 = v0 at *
      subst f0
      have f2 := hf 2 (by decide) (by kernel_rfl)
      generalize vals 2 = v2 at *
      obtain ⟨gr1, rfl, hgr1a, hgr1b⟩ := f2
      try simp at hgr1a
      have hgr1r := hgr1b.rds
      have hgr1l := hgr1b.lt
      clear hgr1b
      clear hf
      have hc1 := cellOf hb1
      have hf1 := frozOf hb1
      have hz1 := sizeOf hb1
      try simp at hz1
      go_wp2_with (first | (go_at_call 18; refine (c_laws_eqBridge _ _ _ _ _ _ _ _ _ (by first | assumption | exact Rds.below (by assumption) (by (repeat' (first | exact Below.refl _ _ | assumption | refine Below.setCell ?_ ?_ _ | refine Below.drew ?_ | refine Below.alloc ?_ ?_ _ | refine Below.trans ?_ (Below.mono (by assumption) ?_) | (simp; done) | (simp; omega) | omega)))) (by first | assumption | exact Rds.below (by assumption) (by (repeat' (first | exact Below.refl _ _ | assumption | refine Below.setCell ?_ ?_ _ | refine Below.drew ?_ | refine Below.alloc ?_ ?_ _ | refine Below.trans ?_ (Below.mono (by assumption) ?_) | (simp; done) | (simp; omega) | omega)))) (by omega) (by omega)).mono ?_; rintro e w' ⟨rfl, hb⟩; have hc := cellOf hb; have hf := frozOf hb; have hz := sizeOf hb; try simp at hz))
      exact RQ.mk rfl ⟨(by first | rfl | (simp [FS9_16]; done) | (simp [FS9_16, *]; done) | (simp [FS9_16, gotV]; done) | (simp [FS9_16, gotV]; omega)), fun h => absurd h (by decide)⟩ (by (repeat' (first | exact Below.refl _ _ | assumption | refine Below.setCell ?_ ?_ _ | refine Below.drew ?_ | refine Below.alloc ?_ ?_ _ | refine Below.trans ?_ (Below.mono (by assumption) ?_) | (simp; done) | (simp; omega) | omega)))
    | 4, _ =>
      injection ho with ho
      subst ho
      clear hl
      simp only [fillA, List.take, List.drop, put_none, Act.put, List.setIfInBounds_toArray, List.set_cons_zero, List.set_cons_succ, Nat.reduceAdd]
      have f3 := hf 3 (by decide) (by kernel_rfl)
      generalize vals 3 = v3 at *
      subst f3
      clear hf
      go_wp2_with (fail)
      exact RQ.mk rfl ⟨(by first | rfl | (simp [FS9_16]; done) | (simp [FS9_16, *]; done) | (simp [FS9_16, gotV]; done) | (simp [FS9_16, gotV]; omega)), fun h => absurd h (by decide)⟩ (Below.refl _ _)
  · intro vals w1 hb1 hf hd
    simp only [fillA, List.take, List.drop, put_none, Act.put, List.setIfInBounds_toArray, List.set_cons_zero, List.set_cons_succ, Nat.reduceAdd]
    clear hd
    have f0 := hf 0 (by decide)
    generalize vals 0 = v0 at *
    subst f0
    have f1 := hf 1 (by decide)
    generalize vals 1 = v1 at *
    subst f1
    have f2 := hf 2 (by decide)
    generalize vals 2 = v2 at *
    obtain ⟨gr1, rfl, hgr1a, hgr1b⟩ := f2
    try simp at hgr1a
    have hgr1r := hgr1b.rds
    have hgr1l := hgr1b.lt
    have Hgr1 := hid hgr1b
    clear hgr1b
    have f3 := hf 3 (by decide)
    generalize vals 3 = v3 at *
    subst f3
    have f4 := hf 4 (by decide)
    generalize vals 4 = v4 at *
    subst f4
    clear hf
    have hc1 := cellOf hb1
    have hf1 := frozOf hb1
    have hz1 := sizeOf hb1
    try simp at hz1
    go_wp2_with (fail)
    refine (c_laws_toIntS _ _ _ _ (by first | exact hr_rs | exact Rds.below hr_rs (by (repeat' (first | exact Below.refl _ _ | assumption | refine Below.setCell ?_ ?_ _ | refine Below.drew ?_ | refine Below.alloc ?_ ?_ _ | refine Below.trans ?_ (Below.mono (by assumption) ?_) | (simp; done) | (simp; omega) | omega)))) (by omega)).mono ?_
    rintro e W10 ⟨g10, rfl, hg10, ho10, hb10⟩
    have hF10 : FreshA cIn 1 3 _ _ _ _ _ := .inr ⟨g10, rfl, hg10, ho10⟩
    have hr10 := hF10.rds
    have hlo10 := hF10.lo
    have hhi10 := hF10.hi
    have HF10 := hid hF10
    clear hF10
    try simp at hlo10
    clear ho10 hg10
    have hc10 := cellOf hb10
    have hf10 := frozOf hb10
    have hz10 := sizeOf hb10
    try simp at hz10
    go_wp2_with (fail)
    refine (c_laws_eqIntS _ _ _ _ _ _ _ (by first | exact hr7 | exact Rds.below hr7 (by (repeat' (first | exact Below.refl _ _ | assumption | refine Below.setCell ?_ ?_ _ | refine Below.drew ?_ | refine Below.alloc ?_ ?_ _ | refine Below.trans ?_ (Below.mono (by assumption) ?_) | (simp; done) | (simp; omega) | omega)))) (by first | exact hr10 | exact Rds.below hr10 (by (repeat' (first | exact Below.refl _ _ | assumption | refine Below.setCell ?_ ?_ _ | refine Below.drew ?_ | refine Below.alloc ?_ ?_ _ | refine Below.trans ?_ (Below.mono (by assumption) ?_) | (simp; done) | (simp; omega) | omega)))) (by omega) (by omega)).mono ?_
    rintro e W11 ⟨rfl, hb11⟩
    have hc11 := cellOf hb11
    have hf11 := frozOf hb11
    have hz11 := sizeOf hb11
    try simp at hz11
    go_wp2_with (fail)
    refine (c_laws_toIntS _ _ _ _ (by first | exact hr_pl | exact Rds.below hr_pl (by (repeat' (first | exact Below.refl _ _ | assumption | refine Below.setCell ?_ ?_ _ | refine Below.drew ?_ | refine Below.alloc ?_ ?_ _ | refine Below.trans ?_ (Below.mono (by assumption) ?_) | (simp; done) | (simp; omega) | omega)))) (by omega)).mono ?_
    rintro e W12 ⟨g12, rfl, hg12, ho12, hb12⟩
    have hF12 : FreshA cIn 1 3 _ _ _ _ _ := .inr ⟨g12, rfl, hg12, ho12⟩
    have hr12 := hF12.rds
    have hlo12 := hF12.lo
    have hhi12 := hF12.hi
    have HF12 := hid hF12
    clear hF12
    try simp at hlo12
    clear ho12 hg12
    have hc12 := cellOf hb12
    have hf12 := frozOf hb12
    have hz12 := sizeOf hb12
    try simp at hz12
    go_wp2_with (fail)
    refine (c_laws_eqIntS _ _ _ _ _ _ _ (by first | exact hr8 | exact Rds.below hr8 (by (repeat' (first | exact Below.refl _ _ | assumption | refine Below.setCell ?_ ?_ _ | refine Below.drew ?_ | refine Below.alloc ?_ ?_ _ | refine Below.trans ?_ (Below.mono (by assumption) ?_) | (simp; done) | (simp; omega) | omega)))) (by first | exact hr12 | exact Rds.below hr12 (by (repeat' (first | exact Below.refl _ _ | assumption | refine Below.setCell ?_ ?_ _ | refine Below.drew ?_ | refine Below.alloc ?_ ?_ _ | refine Below.trans ?_ (Below.mono (by assumption) ?_) | (simp; done) | (simp; omega) | omega)))) (by omega) (by omega)).mono ?_
    rintro e W13 ⟨rfl, hb13⟩
    have hc13 := cellOf hb13
    have hf13 := frozOf hb13
    have hz13 := sizeOf hb13
    try simp at hz13
    go_wp2_with (fail)
    all_goals go_ret
    all_goals exact ⟨rfl, by (repeat' (first | exact Below.refl _ _ | assumption | refine Below.setCell ?_ ?_ _ | refine Below.drew ?_ | refine Below.alloc ?_ ?_ _ | refine Below.trans ?_ (Below.mono (by assumption) ?_) | (simp; done) | (simp; omega) | omega))⟩

end Go.Proofs.Yteciijnpfapmhaa
