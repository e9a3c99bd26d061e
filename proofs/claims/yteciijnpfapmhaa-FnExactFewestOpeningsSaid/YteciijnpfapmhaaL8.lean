import Derived.Test.YteciijnpfapmhaaK9i
import Derived.Test.YteciijnpfapmhaaK9s
import Derived.Test.YteciijnpfapmhaaG9m
import Derived.Test.YteciijnpfapmhaaG7e
import Derived.Test.YteciijnpfapmhaaG7t
import Derived.Test.YteciijnpfapmhaaG9
import Derived.Test.YteciijnpfapmhaaG7m
import Derived.Test.YteciijnpfapmhaaG8
namespace Go.Proofs.Yteciijnpfapmhaa
set_option linter.unusedSimpArgs false
set_option linter.unusedVariables false
open Go.RowKit

def FS11_13 (d : Int) (A : Option Addr) (xs : List (Int × Int)) (n0 cap g5 : Nat) (W5 : World) (w W0 : World) (iq : Nat) (v : Value) (w1 : World) : Prop := match iq with
  | 0 => v = .agg #[.int .i64 (d), .slice (some ⟨g5, 0, none⟩) n0 n0]
  | 1 => v = .agg #[.int .i64 (d), .slice A n0 cap]
  | 2 => FreshBr W0.heap.size d xs v w1
  | 3 => v = .bool (true)
  | 4 => v = .bool (false)
  | _ => True

set_option maxRecDepth 100000 in
set_option maxHeartbeats 8000000 in
theorem c_laws_FnExactFewestOpenings (d : Int) (A : Option Addr) (xs : List (Int × Int)) (cap : Nat) (B : Option Addr) (rs : List Int) (capr : Nat) (p : Int) (w : World) (hr_xs : Rds cIv 2 w A xs) (hn : xs.length ≤ 9223372036854775807) (hr_rs : Rds cIn 1 w B rs) (hnr : rs.length ≤ 9223372036854775807) :
    Calls Try.prog 11 #[.agg #[.int .i64 d, .slice A xs.length cap], .slice B rs.length capr, .int .i64 p] w fun e w' => e = .returned (.bool true) ∧ Below w.heap.size w w' := by
  by_cases hsz_rs : rs.length ≤ 1048576
  rotate_left
  · go_enter Try.func11, Try.ntmps11
    go_wp2_with (go_at_call 14; refine (c_laws_szBridge _ _ _ _ _ _ (by omega) (by omega)).mono ?_; rintro e w' ⟨rfl, hb⟩; have hc := cellOf hb; have hf := frozOf hb; have hz := sizeOf hb; try simp at hz)
    all_goals go_ret
    all_goals exact ⟨rfl, by (repeat' (first | exact Below.refl _ _ | assumption | refine Below.setCell ?_ ?_ _ | refine Below.drew ?_ | refine Below.alloc ?_ ?_ _ | refine Below.trans ?_ (Below.mono (by assumption) ?_) | (simp; done) | (simp; omega) | omega))⟩
  by_cases hsz_xs : xs.length ≤ 1048576
  rotate_left
  · go_enter Try.func11, Try.ntmps11
    go_wp2_with (go_at_call 14; refine (c_laws_szBridge _ _ _ _ _ _ (by omega) (by omega)).mono ?_; rintro e w' ⟨rfl, hb⟩; have hc := cellOf hb; have hf := frozOf hb; have hz := sizeOf hb; try simp at hz)
    all_goals go_ret
    all_goals exact ⟨rfl, by (repeat' (first | exact Below.refl _ _ | assumption | refine Below.setCell ?_ ?_ _ | refine Below.drew ?_ | refine Below.alloc ?_ ?_ _ | refine Below.trans ?_ (Below.mono (by assumption) ?_) | (simp; done) | (simp; omega) | omega))⟩
  have hLl := fewV_len d xs rs p
  go_enter Try.func11, Try.ntmps11
  go_wp2_with (fail)
  refine (c_laws_szBridge _ _ _ _ _ _ (by omega) (by omega)).mono ?_
  rintro e W1 ⟨rfl, hb1⟩
  have hc1 := cellOf hb1
  have hf1 := frozOf hb1
  have hz1 := sizeOf hb1
  try simp at hz1
  go_wp2_with (fail)
  refine (c_laws_toBridge d _ _ _ _ (by first | exact hr_xs | exact Rds.below hr_xs (by (repeat' (first | exact Below.refl _ _ | assumption | refine Below.setCell ?_ ?_ _ | refine Below.drew ?_ | refine Below.alloc ?_ ?_ _ | refine Below.trans ?_ (Below.mono (by assumption) ?_) | (simp; done) | (simp; omega) | omega)))) (by omega)).mono ?_
  rintro e W2 ⟨g2, rfl, hg2, ho2, hb2⟩
  have hF2 : FreshA cIv 2 50 _ _ _ _ _ := .inr ⟨g2, rfl, hg2, ho2⟩
  have hr2 := hF2.rds
  have hlo2 := hF2.lo
  have hhi2 := hF2.hi
  have HF2 := hid hF2
  clear hF2
  try simp at hlo2
  clear ho2 hg2
  have hc2 := cellOf hb2
  have hf2 := frozOf hb2
  have hz2 := sizeOf hb2
  try simp at hz2
  go_wp2_with (fail)
  refine (c_laws_toIntS _ _ _ _ (by first | exact hr_rs | exact Rds.below hr_rs (by (repeat' (first | exact Below.refl _ _ | assumption | refine Below.setCell ?_ ?_ _ | refine Below.drew ?_ | refine Below.alloc ?_ ?_ _ | refine Below.trans ?_ (Below.mono (by assumption) ?_) | (simp; done) | (simp; omega) | omega)))) (by omega)).mono ?_
  rintro e W3 ⟨g3, rfl, hg3, ho3, hb3⟩
  have hF3 : FreshA cIn 1 3 _ _ _ _ _ := .inr ⟨g3, rfl, hg3, ho3⟩
  have hr3 := hF3.rds
  have hlo3 := hF3.lo
  have hhi3 := hF3.hi
  have HF3 := hid hF3
  clear hF3
  try simp at hlo3
  clear ho3 hg3
  have hc3 := cellOf hb3
  have hf3 := frozOf hb3
  have hz3 := sizeOf hb3
  try simp at hz3
  go_wp2_with (fail)
  refine (c_spec_FewestOpenings _ _ _ _ _ _ _ _ _ (by first | exact hr2 | exact Rds.below hr2 (by (repeat' (first | exact Below.refl _ _ | assumption | refine Below.setCell ?_ ?_ _ | refine Below.drew ?_ | refine Below.alloc ?_ ?_ _ | refine Below.trans ?_ (Below.mono (by assumption) ?_) | (simp; done) | (simp; omega) | omega)))) (by omega) (by first | exact hr3 | exact Rds.below hr3 (by (repeat' (first | exact Below.refl _ _ | assumption | refine Below.setCell ?_ ?_ _ | refine Below.drew ?_ | refine Below.alloc ?_ ?_ _ | refine Below.trans ?_ (Below.mono (by assumption) ?_) | (simp; done) | (simp; omega) | omega)))) (by omega) ).mono ?_
  rintro e W4 ⟨A4, cp4, rfl, hF4, hb4⟩
  have hr4 := hF4.rds
  have hlo4 := hF4.lo
  have hhi4 := hF4.hi
  have HF4 := hid hF4
  clear hF4
  try simp at hlo4
  have hc4 := cellOf hb4
  have hf4 := frozOf hb4
  have hz4 := sizeOf hb4
  try simp at hz4
  go_wp2_with (fail)
  refine (c_laws_toBridge d _ _ _ _ (by first | exact hr_xs | exact Rds.below hr_xs (by (repeat' (first | exact Below.refl _ _ | assumption | refine Below.setCell ?_ ?_ _ | refine Below.drew ?_ | refine Below.alloc ?_ ?_ _ | refine Below.trans ?_ (Below.mono (by assumption) ?_) | (simp; done) | (simp; omega) | omega)))) (by omega)).mono ?_
  rintro e W5 ⟨g5, rfl, hg5, ho5, hb5⟩
  have hF5 : FreshA cIv 2 50 _ _ _ _ _ := .inr ⟨g5, rfl, hg5, ho5⟩
  have hr5 := hF5.rds
  have hlo5 := hF5.lo
  have hhi5 := hF5.hi
  have HF5 := hid hF5
  clear hF5
  try simp at hlo5
  clear ho5 hg5
  have hc5 := cellOf hb5
  have hf5 := frozOf hb5
  have hz5 := sizeOf hb5
  try simp at hz5
  go_wp2_with (fail)
  refine (c_laws_toIntS _ _ _ _ (by first | exact hr_rs | exact Rds.below hr_rs (by (repeat' (first | exact Below.refl _ _ | assumption | refine Below.setCell ?_ ?_ _ | refine Below.drew ?_ | refine Below.alloc ?_ ?_ _ | refine Below.trans ?_ (Below.mono (by assumption) ?_) | (simp; done) | (simp; omega) | omega)))) (by omega)).mono ?_
  rintro e W6 ⟨g6, rfl, hg6, ho6, hb6⟩
  have hF6 : FreshA cIn 1 3 _ _ _ _ _ := .inr ⟨g6, rfl, hg6, ho6⟩
  have hr6 := hF6.rds
  have hlo6 := hF6.lo
  have hhi6 := hF6.hi
  have HF6 := hid hF6
  clear hF6
  try simp at hlo6
  clear ho6 hg6
  have hc6 := cellOf hb6
  have hf6 := frozOf hb6
  have hz6 := sizeOf hb6
  try simp at hz6
  go_wp2_with (fail)
  refine (c_impl_FewestOpenings _ _ _ _ _ _ _ _ _ (by first | exact hr5 | exact Rds.below hr5 (by (repeat' (first | exact Below.refl _ _ | assumption | refine Below.setCell ?_ ?_ _ | refine Below.drew ?_ | refine Below.alloc ?_ ?_ _ | refine Below.trans ?_ (Below.mono (by assumption) ?_) | (simp; done) | (simp; omega) | omega)))) (by omega) (by first | exact hr6 | exact Rds.below hr6 (by (repeat' (first | exact Below.refl _ _ | assumption | refine Below.setCell ?_ ?_ _ | refine Below.drew ?_ | refine Below.alloc ?_ ?_ _ | refine Below.trans ?_ (Below.mono (by assumption) ?_) | (simp; done) | (simp; omega) | omega)))) (by omega) ).mono ?_
  rintro e W7 ⟨A7, cp7, rfl, hF7, hb7⟩
  have hr7 := hF7.rds
  have hlo7 := hF7.lo
  have hhi7 := hF7.hi
  have HF7 := hid hF7
  clear hF7
  try simp at hlo7
  have hc7 := cellOf hb7
  have hf7 := frozOf hb7
  have hz7 := sizeOf hb7
  try simp at hz7
  go_wp2_with (fail)
  refine (c_laws_eqIntS _ _ _ _ _ _ _ (by first | exact hr7 | exact Rds.below hr7 (by (repeat' (first | exact Below.refl _ _ | assumption | refine Below.setCell ?_ ?_ _ | refine Below.drew ?_ | refine Below.alloc ?_ ?_ _ | refine Below.trans ?_ (Below.mono (by assumption) ?_) | (simp; done) | (simp; omega) | omega)))) (by first | exact hr4 | exact Rds.below hr4 (by (repeat' (first | exact Below.refl _ _ | assumption | refine Below.setCell ?_ ?_ _ | refine Below.drew ?_ | refine Below.alloc ?_ ?_ _ | refine Below.trans ?_ (Below.mono (by assumption) ?_) | (simp; done) | (simp; omega) | omega)))) (by omega) (by omega)).mono ?_
  rintro e W8 ⟨rfl, hb8⟩
  have hc8 := cellOf hb8
  have hf8 := frozOf hb8
  have hz8 := sizeOf hb8
  try simp at hz8
  go_wp2_with (fail)
  refine wp_region_w (n := 5) [] [] (FS11_13 d A xs xs.length cap g5 W5 w) rfl (by kernel_rfl) (fun _ _ d _ _ h => by cases d <;> exact h) ?_ ?_ ?_ ?_ ?_ ?_
  · intro iq
    match iq with
    | 0 | 1 | 3 | 4 => exact Stable.const _
    | 2 => exact FreshBr.stable
    | n + 5 => exact Stable.const _
  · intro iq hi
    exact absurd hi (by simp)
  · intro iq hi
    exact absurd hi (by simp)
  · intro iq o hi hl ho vals w1 hb1 hf
    exact absurd hl (by simp)
  · intro iq o hi hl ho vals w1 hb1 hf
    match iq, hi with
    | 0, _ =>
      injection ho with ho
      subst ho
      clear hl
      simp only [fillA, List.take, List.drop, put_none, Act.put, List.setIfInBounds_toArray, List.set_cons_zero, List.set_cons_succ, Nat.reduceAdd]
      clear hf
      have hc1 := cellOf hb1
      have hf1 := frozOf hb1
      have hz1 := sizeOf hb1
      try simp at hz1
      go_wp2_with (fail)
      exact RQ.mk rfl ⟨(by first | rfl | (simp [FS11_13]; done) | (simp [FS11_13, *]; done) | (simp [FS11_13, gotV]; done) | (simp [FS11_13, gotV]; omega)), fun h => absurd h (by decide)⟩ (Below.refl _ _)
    | 1, _ =>
      injection ho with ho
      subst ho
      clear hl
      simp only [fillA, List.take, List.drop, put_none, Act.put, List.setIfInBounds_toArray, List.set_cons_zero, List.set_cons_succ, Nat.reduceAdd]
      clear hf
      have hc1 := cellOf hb1
      have hf1 := frozOf hb1
      have hz1 := sizeOf hb1
      try simp at hz1
      go_wp2_with (fail)
      exact RQ.mk rfl ⟨(by first | rfl | (simp [FS11_13]; done) | (simp [FS11_13, *]; done) | (simp [FS11_13, gotV]; done) | (simp [FS11_13, gotV]; omega)), fun h => absurd h (by decide)⟩ (Below.refl _ _)
    | 2, _ =>
      injection ho with ho
      subst ho
      clear hl
      simp only [fillA, List.take, List.drop, put_none, Act.put, List.setIfInBounds_toArray, List.set_cons_zero, List.set_cons_succ, Nat.reduceAdd]
      have f1 := hf 1 (by decide) (by kernel_rfl)
      generalize vals 1 = v1 at *
      subst f1
      clear hf
      have hc1 := cellOf hb1
      have hf1 := frozOf hb1
      have hz1 := sizeOf hb1
      try simp at hz1
      go_wp2_with (first | (go_at_call 16; refine (c_laws_toBridge _ _ _ _ _ (by first | assumption | exact Rds.below (by assumption) (by (repeat' (first | exact Below.refl _ _ | assumption | refine Below.setCell ?_ ?_ _ | refine Below.drew ?_ | refine Below.alloc ?_ ?_ _ | refine Below.trans ?_ (Below.mono (by assumption) ?_) | (simp; done) | (simp; omega) | omega)))) (by omega)).mono ?_; rintro e w' ⟨g, rfl, hg, ho, hb⟩; have hr := ho.rds; have hlo := ho.lt; have HO := hid ho; clear ho; have hc := cellOf hb; have hf := frozOf hb; have hz := sizeOf hb; try simp at hz))
      exact RQ.mk rfl ⟨⟨_, rfl, (by first | omega | (simp at *; omega)), HO.out⟩, fun h => absurd h (by decide)⟩ (by (repeat' (first | exact Below.refl _ _ | assumption | refine Below.setCell ?_ ?_ _ | refine Below.drew ?_ | refine Below.alloc ?_ ?_ _ | refine Below.trans ?_ (Below.mono (by assumption) ?_) | (simp; done) | (simp; omega) | omega)))
    | 3, _ =>
      injection ho with ho
      subst ho
      clear hl
      simp only [fillA, List.take, List.drop, put_none, Act.put, List.setIfInBounds_toArray, List.set_cons_zero, List.set_cons_succ, Nat.reduceAdd]
      have f0 := hf 0 (by decide) (by kernel_rfl)
      generalize vals 0 = v0 at *
      subst f0
      have f2 := hf 2 (by decide) (by kernel_rfl)
      generalize vals 2 = v2 at *
      obtain ⟨gr1, rfl, hgr1a, hgr1b⟩ := f2
      try simp at hgr1a
      have hgr1r := hgr1b.rds
      have hgr1l := hgr1b.lt
      clear hgr1b
      clear hf
      have hc1 := cellOf hb1
      have hf1 := frozOf hb1
      have hz1 := sizeOf hb1
      try simp at hz1
      go_wp2_with (first | (go_at_call 18; refine (c_laws_eqBridge _ _ _ _ _ _ _ _ _ (by first | assumption | exact Rds.below (by assumption) (by (repeat' (first | exact Below.refl _ _ | assumption | refine Below.setCell ?_ ?_ _ | refine Below.drew ?_ | refine Below.alloc ?_ ?_ _ | refine Below.trans ?_ (Below.mono (by assumption) ?_) | (simp; done) | (simp; omega) | omega)))) (by first | assumption | exact Rds.below (by assumption) (by (repeat' (first | exact Below.refl _ _ | assumption | refine Below.setCell ?_ ?_ _ | refine Below.drew ?_ | refine Below.alloc ?_ ?_ _ | refine Below.trans ?_ (Below.mono (by assumption) ?_) | (simp; done) | (simp; omega) | omega)))) (by omega) (by omega)).mono ?_; rintro e w' ⟨rfl, hb⟩; have hc := cellOf hb; have hf := frozOf hb; have hz := sizeOf hb; try simp at hz))
      exact RQ.mk rfl ⟨(by first | rfl | (simp [FS11_13]; done) | (simp [FS11_13, *]; done) | (simp [FS11_13, gotV]; done) | (simp [FS11_13, gotV]; omega)), fun h => absurd h (by decide)⟩ (by (repeat' (first | exact Below.refl _ _ | assumption | refine Below.setCell ?_ ?_ _ | refine Below.drew ?_ | refine Below.alloc ?_ ?_ _ | refine Below.trans ?_ (Below.mono (by assumption) ?_) | (simp; done) | (simp; omega) | omega)))
    | 4, _ =>
      injection ho with ho
      subst ho
      clear hl
      simp only [fillA, List.take, List.drop, put_none, Act.put, List.setIfInBounds_toArray, List.set_cons_zero, List.set_cons_succ, Nat.reduceAdd]
      have f3 := hf 3 (by decide) (by kernel_rfl)
      generalize vals 3 = v3 at *
      subst f3
      clear hf
      go_wp2_with (fail)
      exact RQ.mk rfl ⟨(by first | rfl | (simp [FS11_13]; done) | (simp [FS11_13, *]; done) | (simp [FS11_13, gotV]; done) | (simp [FS11_13, gotV]; omega)), fun h => absurd h (by decide)⟩ (Below.refl _ _)
  · intro vals w1 hb1 hf hd
    simp only [fillA, List.take, List.drop, put_none, Act.put, List.setIfInBounds_toArray, List.set_cons_zero, List.set_cons_succ, Nat.reduceAdd]
    clear hd
    have f0 := hf 0 (by decide)
    generalize vals 0 = v0 at *
    subst f0
    have f1 := hf 1 (by decide)
    generalize vals 1 = v1 at *
    subst f1
    have f2 := hf 2 (by decide)
    generalize vals 2 = v2 at *
    obtain ⟨gr1, rfl, hgr1a, hgr1b⟩ := f2
    try simp at hgr1a
    have hgr1r := hgr1b.rds
    have hgr1l := hgr1b.lt
    have Hgr1 := hid hgr1b
    clear hgr1b
    have f3 := hf 3 (by decide)
    generalize vals 3 = v3 at *
    subst f3
    have f4 := hf 4 (by decide)
    generalize vals 4 = v4 at *
    subst f4
    clear hf
    have hc1 := cellOf hb1
    have hf1 := frozOf hb1
    have hz1 := sizeOf hb1
    try simp at hz1
    go_wp2_with (fail)
    refine (c_laws_toIntS _ _ _ _ (by first | exact hr_rs | exact Rds.below hr_rs (by (repeat' (first | exact Below.refl _ _ | assumption | refine Below.setCell ?_ ?_ _ | refine Below.drew ?_ | refine Below.alloc ?_ ?_ _ | refine Below.trans ?_ (Below.mono (by assumption) ?_) | (simp; done) | (simp; omega) | omega)))) (by omega)).mono ?_
    rintro e W9 ⟨g9, rfl, hg9, ho9, hb9⟩
    have hF9 : FreshA cIn 1 3 _ _ _ _ _ := .inr ⟨g9, rfl, hg9, ho9⟩
    have hr9 := hF9.rds
    have hlo9 := hF9.lo
    have hhi9 := hF9.hi
    have HF9 := hid hF9
    clear hF9
    try simp at hlo9
    clear ho9 hg9
    have hc9 := cellOf hb9
    have hf9 := frozOf hb9
    have hz9 := sizeOf hb9
    try simp at hz9
    go_wp2_with (fail)
    refine (c_laws_eqIntS _ _ _ _ _ _ _ (by first | exact hr6 | exact Rds.below hr6 (by (repeat' (first | exact Below.refl _ _ | assumption | refine Below.setCell ?_ ?_ _ | refine Below.drew ?_ | refine Below.alloc ?_ ?_ _ | refine Below.trans ?_ (Below.mono (by assumption) ?_) | (simp; done) | (simp; omega) | omega)))) (by first | exact hr9 | exact Rds.below hr9 (by (repeat' (first | exact Below.refl _ _ | assumption | refine Below.setCell ?_ ?_ _ | refine Below.drew ?_ | refine Below.alloc ?_ ?_ _ | refine Below.trans ?_ (Below.mono (by assumption) ?_) | (simp; done) | (simp; omega) | omega)))) (by omega) (by omega)).mono ?_
    rintro e W10 ⟨rfl, hb10⟩
    have hc10 := cellOf hb10
    have hf10 := frozOf hb10
    have hz10 := sizeOf hb10
    try simp at hz10
    go_wp2_with (fail)
    refine (c_laws_markBridge _ _ _ _ _ _ _ (FreshA.below HF5.out (by (repeat' (first | exact Below.refl _ _ | assumption | refine Below.setCell ?_ ?_ _ | refine Below.drew ?_ | refine Below.alloc ?_ ?_ _ | refine Below.trans ?_ (Below.mono (by assumption) ?_) | (simp; done) | (simp; omega) | omega)))) (by omega) (by omega)).mono ?_
    rintro e W11 ⟨rfl, hF11, hg11⟩
    have hb11 := below_of_grown hg11 hlo5 (by (try simp); omega)
    have hc11 := cellGrown hg11 hlo5 hhi5
    have hf11 := frozGrown hg11 hlo5 hhi5
    have hz11 := hg11.size
    try simp at hz11
    have hn11_aB := RdsN.past (Rds.toN hr_xs) (by first | exact Nat.le_refl _ | omega) (by (repeat' (first | exact Below.refl _ _ | assumption | refine Below.setCell ?_ ?_ _ | refine Below.drew ?_ | refine Below.alloc ?_ ?_ _ | refine Below.trans ?_ (Below.mono (by assumption) ?_) | (simp; done) | (simp; omega) | omega))) hg11 hlo5 (by omega)
    have hr11_aB := RdsN.rds hn11_aB (by omega)
    have hn11_aRequests := RdsN.past (Rds.toN hr_rs) (by first | exact Nat.le_refl _ | omega) (by (repeat' (first | exact Below.refl _ _ | assumption | refine Below.setCell ?_ ?_ _ | refine Below.drew ?_ | refine Below.alloc ?_ ?_ _ | refine Below.trans ?_ (Below.mono (by assumption) ?_) | (simp; done) | (simp; omega) | omega))) hg11 hlo5 (by omega)
    have hr11_aRequests := RdsN.rds hn11_aRequests (by omega)
    have hn11_w0 := RdsN.past (Rds.toN hr4) (by first | exact Nat.le_refl _ | omega) (by (repeat' (first | exact Below.refl _ _ | assumption | refine Below.setCell ?_ ?_ _ | refine Below.drew ?_ | refine Below.alloc ?_ ?_ _ | refine Below.trans ?_ (Below.mono (by assumption) ?_) | (simp; done) | (simp; omega) | omega))) hg11 hlo5 (by omega)
    have hr11_w0 := RdsN.rds hn11_w0 (by omega)
    have hF11_x1 := FreshA.grown (FreshA.below HF6.out (by (repeat' (first | exact Below.refl _ _ | assumption | refine Below.setCell ?_ ?_ _ | refine Below.drew ?_ | refine Below.alloc ?_ ?_ _ | refine Below.trans ?_ (Below.mono (by assumption) ?_) | (simp; done) | (simp; omega) | omega)))) hg11 (apart_hl (Lo.mono hlo6 (by omega)) hhi5)
    have hr11_x1 := hF11_x1.rds
    have HF11_x1 := hid hF11_x1
    clear hF11_x1
    have hF11_g0 := FreshA.grown (FreshA.below HF7.out (by (repeat' (first | exact Below.refl _ _ | assumption | refine Below.setCell ?_ ?_ _ | refine Below.drew ?_ | refine Below.alloc ?_ ?_ _ | refine Below.trans ?_ (Below.mono (by assumption) ?_) | (simp; done) | (simp; omega) | omega)))) hg11 (apart_hl (Lo.mono hlo7 (by omega)) hhi5)
    have hr11_g0 := hF11_g0.rds
    have HF11_g0 := hid hF11_g0
    clear hF11_g0
    have hr11 := hF11.rds
    have HF11 := hid hF11
    clear hF11
    go_wp2_with (fail)
    refine (c_laws_markIntS _ _ _ _ _ _ (FreshA.below HF11_x1.out (by (repeat' (first | exact Below.refl _ _ | assumption | refine Below.setCell ?_ ?_ _ | refine Below.drew ?_ | refine Below.alloc ?_ ?_ _ | refine Below.trans ?_ (Below.mono (by assumption) ?_) | (simp; done) | (simp; omega) | omega)))) (by omega) (by omega)).mono ?_
    rintro e W12 ⟨rfl, hF12, hg12⟩
    have hb12 := below_of_grown hg12 hlo6 (by (try simp); omega)
    have hc12 := cellGrown hg12 hlo6 hhi6
    have hf12 := frozGrown hg12 hlo6 hhi6
    have hz12 := hg12.size
    try simp at hz12
    have hn12_aB := RdsN.past (hn11_aB) (by first | exact Nat.le_refl _ | omega) (by (repeat' (first | exact Below.refl _ _ | assumption | refine Below.setCell ?_ ?_ _ | refine Below.drew ?_ | refine Below.alloc ?_ ?_ _ | refine Below.trans ?_ (Below.mono (by assumption) ?_) | (simp; done) | (simp; omega) | omega))) hg12 hlo6 (by omega)
    have hr12_aB := RdsN.rds hn12_aB (by omega)
    have hn12_aRequests := RdsN.past (hn11_aRequests) (by first | exact Nat.le_refl _ | omega) (by (repeat' (first | exact Below.refl _ _ | assumption | refine Below.setCell ?_ ?_ _ | refine Below.drew ?_ | refine Below.alloc ?_ ?_ _ | refine Below.trans ?_ (Below.mono (by assumption) ?_) | (simp; done) | (simp; omega) | omega))) hg12 hlo6 (by omega)
    have hr12_aRequests := RdsN.rds hn12_aRequests (by omega)
    have hn12_w0 := RdsN.past (hn11_w0) (by first | exact Nat.le_refl _ | omega) (by (repeat' (first | exact Below.refl _ _ | assumption | refine Below.setCell ?_ ?_ _ | refine Below.drew ?_ | refine Below.alloc ?_ ?_ _ | refine Below.trans ?_ (Below.mono (by assumption) ?_) | (simp; done) | (simp; omega) | omega))) hg12 hlo6 (by omega)
    have hr12_w0 := RdsN.rds hn12_w0 (by omega)
    have hn12_x0 := RdsN.past (RdsN.ofHi hr11 hhi5) (by first | exact Nat.le_refl _ | omega) (by (repeat' (first | exact Below.refl _ _ | assumption | refine Below.setCell ?_ ?_ _ | refine Below.drew ?_ | refine Below.alloc ?_ ?_ _ | refine Below.trans ?_ (Below.mono (by assumption) ?_) | (simp; done) | (simp; omega) | omega))) hg12 hlo6 (by omega)
    have hr12_x0 := RdsN.rds hn12_x0 (by omega)
    have hF12_g0 := FreshA.grown (FreshA.below HF11_g0.out (by (repeat' (first | exact Below.refl _ _ | assumption | refine Below.setCell ?_ ?_ _ | refine Below.drew ?_ | refine Below.alloc ?_ ?_ _ | refine Below.trans ?_ (Below.mono (by assumption) ?_) | (simp; done) | (simp; omega) | omega)))) hg12 (apart_hl (Lo.mono hlo7 (by omega)) hhi6)
    have hr12_g0 := hF12_g0.rds
    have HF12_g0 := hid hF12_g0
    clear hF12_g0
    have hr12 := hF12.rds
    have HF12 := hid hF12
    clear hF12
    go_wp2_with (fail)
    refine (c_laws_eqIntS _ _ _ _ _ _ _ (by first | exact hr12_g0 | exact Rds.below hr12_g0 (by (repeat' (first | exact Below.refl _ _ | assumption | refine Below.setCell ?_ ?_ _ | refine Below.drew ?_ | refine Below.alloc ?_ ?_ _ | refine Below.trans ?_ (Below.mono (by assumption) ?_) | (simp; done) | (simp; omega) | omega)))) (by first | exact hr12_w0 | exact Rds.below hr12_w0 (by (repeat' (first | exact Below.refl _ _ | assumption | refine Below.setCell ?_ ?_ _ | refine Below.drew ?_ | refine Below.alloc ?_ ?_ _ | refine Below.trans ?_ (Below.mono (by assumption) ?_) | (simp; done) | (simp; omega) | omega)))) (by omega) (by omega)).mono ?_
    rintro e W13 ⟨rfl, hb13⟩
    have hc13 := cellOf hb13
    have hf13 := frozOf hb13
    have hz13 := sizeOf hb13
    try simp at hz13
    go_wp2_with (fail)
    refine (c_laws_markIntS _ _ _ _ _ _ (FreshA.below HF12_g0.out (by (repeat' (first | exact Below.refl _ _ | assumption | refine Below.setCell ?_ ?_ _ | refine Below.drew ?_ | refine Below.alloc ?_ ?_ _ | refine Below.trans ?_ (Below.mono (by assumption) ?_) | (simp; done) | (simp; omega) | omega)))) (by omega) (by omega)).mono ?_
    rintro e W14 ⟨rfl, hF14, hg14⟩
    have hb14 := below_of_grown hg14 hlo7 (by (try simp); omega)
    have hc14 := cellGrown hg14 hlo7 hhi7
    have hf14 := frozGrown hg14 hlo7 hhi7
    have hz14 := hg14.size
    try simp at hz14
    have hn14_aB := RdsN.past (hn12_aB) (by first | exact Nat.le_refl _ | omega) (by (repeat' (first | exact Below.refl _ _ | assumption | refine Below.setCell ?_ ?_ _ | refine Below.drew ?_ | refine Below.alloc ?_ ?_ _ | refine Below.trans ?_ (Below.mono (by assumption) ?_) | (simp; done) | (simp; omega) | omega))) hg14 hlo7 (by omega)
    have hr14_aB := RdsN.rds hn14_aB (by omega)
    have hn14_aRequests := RdsN.past (hn12_aRequests) (by first | exact Nat.le_refl _ | omega) (by (repeat' (first | exact Below.refl _ _ | assumption | refine Below.setCell ?_ ?_ _ | refine Below.drew ?_ | refine Below.alloc ?_ ?_ _ | refine Below.trans ?_ (Below.mono (by assumption) ?_) | (simp; done) | (simp; omega) | omega))) hg14 hlo7 (by omega)
    have hr14_aRequests := RdsN.rds hn14_aRequests (by omega)
    have hn14_w0 := RdsN.past (hn12_w0) (by first | exact Nat.le_refl _ | omega) (by (repeat' (first | exact Below.refl _ _ | assumption | refine Below.setCell ?_ ?_ _ | refine Below.drew ?_ | refine Below.alloc ?_ ?_ _ | refine Below.trans ?_ (Below.mono (by assumption) ?_) | (simp; done) | (simp; omega) | omega))) hg14 hlo7 (by omega)
    have hr14_w0 := RdsN.rds hn14_w0 (by omega)
    have hn14_x0 := RdsN.past (hn12_x0) (by first | exact Nat.le_refl _ | omega) (by (repeat' (first | exact Below.refl _ _ | assumption | refine Below.setCell ?_ ?_ _ | refine Below.drew ?_ | refine Below.alloc ?_ ?_ _ | refine Below.trans ?_ (Below.mono (by assumption) ?_) | (simp; done) | (simp; omega) | omega))) hg14 hlo7 (by omega)
    have hr14_x0 := RdsN.rds hn14_x0 (by omega)
    have hn14_x1 := RdsN.past (RdsN.ofHi hr12 hhi6) (by first | exact Nat.le_refl _ | omega) (by (repeat' (first | exact Below.refl _ _ | assumption | refine Below.setCell ?_ ?_ _ | refine Below.drew ?_ | refine Below.alloc ?_ ?_ _ | refine Below.trans ?_ (Below.mono (by assumption) ?_) | (simp; done) | (simp; omega) | omega))) hg14 hlo7 (by omega)
    have hr14_x1 := RdsN.rds hn14_x1 (by omega)
    have hr14 := hF14.rds
    have HF14 := hid hF14
    clear hF14
    go_wp2_with (fail)
    refine (c_laws_heldIntS _ _ _ _ _ (by first | exact hr14 | exact Rds.below hr14 (by (repeat' (first | exact Below.refl _ _ | assumption | refine Below.setCell ?_ ?_ _ | refine Below.drew ?_ | refine Below.alloc ?_ ?_ _ | refine Below.trans ?_ (Below.mono (by assumption) ?_) | (simp; done) | (simp; omega) | omega)))) (by omega) (by omega)).mono ?_
    rintro e W15 ⟨rfl, hb15⟩
    have hc15 := cellOf hb15
    have hf15 := frozOf hb15
    have hz15 := sizeOf hb15
    try simp at hz15
    go_wp2_with (fail)
    refine (c_laws_toBridge d _ _ _ _ (by first | exact hr14_aB | exact Rds.below hr14_aB (by (repeat' (first | exact Below.refl _ _ | assumption | refine Below.setCell ?_ ?_ _ | refine Below.drew ?_ | refine Below.alloc ?_ ?_ _ | refine Below.trans ?_ (Below.mono (by assumption) ?_) | (simp; done) | (simp; omega) | omega)))) (by omega)).mono ?_
    rintro e W16 ⟨g16, rfl, hg16, ho16, hb16⟩
    have hF16 : FreshA cIv 2 50 _ _ _ _ _ := .inr ⟨g16, rfl, hg16, ho16⟩
    have hr16 := hF16.rds
    have hlo16 := hF16.lo
    have hhi16 := hF16.hi
    have HF16 := hid hF16
    clear hF16
    try simp at hlo16
    clear ho16 hg16
    have hc16 := cellOf hb16
    have hf16 := frozOf hb16
    have hz16 := sizeOf hb16
    try simp at hz16
    go_wp2_with (fail)
    refine (c_laws_toIntS _ _ _ _ (by first | exact hr14_aRequests | exact Rds.below hr14_aRequests (by (repeat' (first | exact Below.refl _ _ | assumption | refine Below.setCell ?_ ?_ _ | refine Below.drew ?_ | refine Below.alloc ?_ ?_ _ | refine Below.trans ?_ (Below.mono (by assumption) ?_) | (simp; done) | (simp; omega) | omega)))) (by omega)).mono ?_
    rintro e W17 ⟨g17, rfl, hg17, ho17, hb17⟩
    have hF17 : FreshA cIn 1 3 _ _ _ _ _ := .inr ⟨g17, rfl, hg17, ho17⟩
    have hr17 := hF17.rds
    have hlo17 := hF17.lo
    have hhi17 := hF17.hi
    have HF17 := hid hF17
    clear hF17
    try simp at hlo17
    clear ho17 hg17
    have hc17 := cellOf hb17
    have hf17 := frozOf hb17
    have hz17 := sizeOf hb17
    try simp at hz17
    go_wp2_with (fail)
    refine (c_impl_FewestOpenings _ _ _ _ _ _ _ _ _ (by first | exact hr16 | exact Rds.below hr16 (by (repeat' (first | exact Below.refl _ _ | assumption | refine Below.setCell ?_ ?_ _ | refine Below.drew ?_ | refine Below.alloc ?_ ?_ _ | refine Below.trans ?_ (Below.mono (by assumption) ?_) | (simp; done) | (simp; omega) | omega)))) (by omega) (by first | exact hr17 | exact Rds.below hr17 (by (repeat' (first | exact Below.refl _ _ | assumption | refine Below.setCell ?_ ?_ _ | refine Below.drew ?_ | refine Below.alloc ?_ ?_ _ | refine Below.trans ?_ (Below.mono (by assumption) ?_) | (simp; done) | (simp; omega) | omega)))) (by omega) ).mono ?_
    rintro e W18 ⟨A18, cp18, rfl, hF18, hb18⟩
    have hr18 := hF18.rds
    have hlo18 := hF18.lo
    have hhi18 := hF18.hi
    have HF18 := hid hF18
    clear hF18
    try simp at hlo18
    have hc18 := cellOf hb18
    have hf18 := frozOf hb18
    have hz18 := sizeOf hb18
    try simp at hz18
    go_wp2_with (fail)
    refine (c_laws_eqIntS _ _ _ _ _ _ _ (by first | exact hr18 | exact Rds.below hr18 (by (repeat' (first | exact Below.refl _ _ | assumption | refine Below.setCell ?_ ?_ _ | refine Below.drew ?_ | refine Below.alloc ?_ ?_ _ | refine Below.trans ?_ (Below.mono (by assumption) ?_) | (simp; done) | (simp; omega) | omega)))) (by first | exact hr14_w0 | exact Rds.below hr14_w0 (by (repeat' (first | exact Below.refl _ _ | assumption | refine Below.setCell ?_ ?_ _ | refine Below.drew ?_ | refine Below.alloc ?_ ?_ _ | refine Below.trans ?_ (Below.mono (by assumption) ?_) | (simp; done) | (simp; omega) | omega)))) (by omega) (by omega)).mono ?_
    rintro e W19 ⟨rfl, hb19⟩
    have hc19 := cellOf hb19
    have hf19 := frozOf hb19
    have hz19 := sizeOf hb19
    try simp at hz19
    go_wp2_with (fail)
    refine (c_laws_heldIntS _ _ _ _ _ (by first | exact hr14 | exact Rds.below hr14 (by (repeat' (first | exact Below.refl _ _ | assumption | refine Below.setCell ?_ ?_ _ | refine Below.drew ?_ | refine Below.alloc ?_ ?_ _ | refine Below.trans ?_ (Below.mono (by assumption) ?_) | (simp; done) | (simp; omega) | omega)))) (by omega) (by omega)).mono ?_
    rintro e W20 ⟨rfl, hb20⟩
    have hc20 := cellOf hb20
    have hf20 := frozOf hb20
    have hz20 := sizeOf hb20
    try simp at hz20
    go_wp2_with (fail)
    all_goals go_ret
    all_goals exact ⟨rfl, by (repeat' (first | exact Below.refl _ _ | assumption | refine Below.setCell ?_ ?_ _ | refine Below.drew ?_ | refine Below.alloc ?_ ?_ _ | refine Below.trans ?_ (Below.mono (by assumption) ?_) | (simp; done) | (simp; omega) | omega))⟩

end Go.Proofs.Yteciijnpfapmhaa
