import Derived.Test.YtpaclngjmdacjaaWi
import Derived.Test.YtpaclngjmdacjaaWs
import Derived.Test.YtpaclngjmdacjaaE9
import Derived.Test.YtpaclngjmdacjaaE7h
namespace Go.Proofs.Ytpaclngjmdacjaa
set_option linter.unusedSimpArgs false
set_option linter.unusedVariables false
open Go.RowKit

def FS8_10 (l_ : Int) (u_ : Int) (v_ : Int) (A : Option Addr) (fs : List (Int)) (n3 capf g4a : Nat) (B : Option Addr) (ps : List (Int × Int × Int)) (n4 capq g4b : Nat) (W4 : World) (w W0 : World) (iq : Nat) (v : Value) (w1 : World) : Prop := match iq with
  | 0 => v = .agg #[.int .i64 (l_), .int .i64 (u_), .int .i64 (v_), .slice (some ⟨g4a, 0, none⟩) n3 n3, .slice (some ⟨g4b, 0, none⟩) n4 n4]
  | 1 => v = .agg #[.int .i64 (l_), .int .i64 (u_), .int .i64 (v_), .slice A n3 capf, .slice B n4 capq]
  | 2 => FreshTk W0.heap.size l_ u_ v_ fs ps v w1
  | 3 => v = .bool (true)
  | 4 => v = .bool (false)
  | _ => True

set_option maxRecDepth 100000 in
set_option maxHeartbeats 8000000 in
theorem c_laws_FnExactWithoutPump (l u v : Int) (A : Option Addr) (fs : List Int) (capf : Nat) (B : Option Addr) (ps : List (Int × Int × Int)) (capq : Nat) (i : Int) (w : World) (hr_fs : Rds cIn 1 w A fs) (hn : fs.length ≤ 9223372036854775807) (hr_ps : Rds cPu 3 w B ps) (hm : ps.length ≤ 9223372036854775807) :
    Calls Try.prog 8 #[.agg #[.int .i64 l, .int .i64 u, .int .i64 v, .slice A fs.length capf, .slice B ps.length capq], .int .i64 i] w fun e w' => e = .returned (.bool true) ∧ Below w.heap.size w w' := by
  by_cases hsum : fs.length + ps.length ≤ 1048576
  rotate_left
  · go_enter Try.func8, Try.ntmps8
    go_wp2_with (go_at_call 13; refine (c_laws_szPumpTask _ _ _ _ _ _ _ _ _ _ _ (by omega) (by omega) (by omega)).mono ?_; rintro e w' ⟨rfl, hb⟩; have hc := cellOf hb; have hf := frozOf hb; have hz := sizeOf hb; try simp at hz)
    all_goals go_ret
    all_goals exact ⟨rfl, by (repeat' (first | exact Below.refl _ _ | assumption | refine Below.setCell ?_ ?_ _ | refine Below.drew ?_ | refine Below.alloc ?_ ?_ _ | refine Below.trans ?_ (Below.mono (by assumption) ?_) | (simp; done) | (simp; omega) | omega))⟩
  obtain ⟨hLa, hLb⟩ := woV_len l u v fs ps i
  go_enter Try.func8, Try.ntmps8
  go_wp2_with (fail)
  refine (c_laws_szPumpTask _ _ _ _ _ _ _ _ _ _ _ (by omega) (by omega) (by omega)).mono ?_
  rintro e W1 ⟨rfl, hb1⟩
  have hc1 := cellOf hb1
  have hf1 := frozOf hb1
  have hz1 := sizeOf hb1
  try simp at hz1
  go_wp2_with (fail)
  refine (c_laws_toPumpTask l u v _ _ _ _ _ _ _ (by first | exact hr_fs | exact Rds.below hr_fs (by (repeat' (first | exact Below.refl _ _ | assumption | refine Below.setCell ?_ ?_ _ | refine Below.drew ?_ | refine Below.alloc ?_ ?_ _ | refine Below.trans ?_ (Below.mono (by assumption) ?_) | (simp; done) | (simp; omega) | omega)))) (by omega) (by first | exact hr_ps | exact Rds.below hr_ps (by (repeat' (first | exact Below.refl _ _ | assumption | refine Below.setCell ?_ ?_ _ | refine Below.drew ?_ | refine Below.alloc ?_ ?_ _ | refine Below.trans ?_ (Below.mono (by assumption) ?_) | (simp; done) | (simp; omega) | omega)))) (by omega)).mono ?_
  rintro e W2 ⟨g2a, g2b, rfl, hg2a, ho2a, hg2b, ho2b, hb2⟩
  have hF2a : FreshA cIn 1 3 _ _ _ _ _ := .inr ⟨g2a, rfl, hg2a, ho2a⟩
  have hr2a := hF2a.rds
  have hlo2a := hF2a.lo
  have hhi2a := hF2a.hi
  have HF2a := hid hF2a
  clear hF2a
  try simp at hlo2a
  clear ho2a hg2a
  have hF2b : FreshA cPu 3 71 _ _ _ _ _ := .inr ⟨g2b, rfl, hg2b, ho2b⟩
  have hr2b := hF2b.rds
  have hlo2b := hF2b.lo
  have hhi2b := hF2b.hi
  have HF2b := hid hF2b
  clear hF2b
  try simp at hlo2b
  clear ho2b hg2b
  have hc2 := cellOf hb2
  have hf2 := frozOf hb2
  have hz2 := sizeOf hb2
  try simp at hz2
  go_wp2_with (fail)
  refine (c_spec_WithoutPump _ _ _ _ _ _ _ _ _ _ _ (by first | exact hr2a | exact Rds.below hr2a (by (repeat' (first | exact Below.refl _ _ | assumption | refine Below.setCell ?_ ?_ _ | refine Below.drew ?_ | refine Below.alloc ?_ ?_ _ | refine Below.trans ?_ (Below.mono (by assumption) ?_) | (simp; done) | (simp; omega) | omega)))) (by omega) (by first | exact hr2b | exact Rds.below hr2b (by (repeat' (first | exact Below.refl _ _ | assumption | refine Below.setCell ?_ ?_ _ | refine Below.drew ?_ | refine Below.alloc ?_ ?_ _ | refine Below.trans ?_ (Below.mono (by assumption) ?_) | (simp; done) | (simp; omega) | omega)))) (by omega) (Nat.le_refl _)).mono ?_
  rintro e W3 ⟨A3a, cp3a, A3b, cp3b, rfl, hF3a, hF3b, hb3⟩
  have hr3a := hF3a.rds
  have hlo3a := hF3a.lo
  have hhi3a := hF3a.hi
  have HF3a := hid hF3a
  clear hF3a
  try simp at hlo3a
  have hr3b := hF3b.rds
  have hlo3b := hF3b.lo
  have hhi3b := hF3b.hi
  have HF3b := hid hF3b
  clear hF3b
  try simp at hlo3b
  have hc3 := cellOf hb3
  have hf3 := frozOf hb3
  have hz3 := sizeOf hb3
  try simp at hz3
  go_wp2_with (fail)
  refine (c_laws_toPumpTask l u v _ _ _ _ _ _ _ (by first | exact hr_fs | exact Rds.below hr_fs (by (repeat' (first | exact Below.refl _ _ | assumption | refine Below.setCell ?_ ?_ _ | refine Below.drew ?_ | refine Below.alloc ?_ ?_ _ | refine Below.trans ?_ (Below.mono (by assumption) ?_) | (simp; done) | (simp; omega) | omega)))) (by omega) (by first | exact hr_ps | exact Rds.below hr_ps (by (repeat' (first | exact Below.refl _ _ | assumption | refine Below.setCell ?_ ?_ _ | refine Below.drew ?_ | refine Below.alloc ?_ ?_ _ | refine Below.trans ?_ (Below.mono (by assumption) ?_) | (simp; done) | (simp; omega) | omega)))) (by omega)).mono ?_
  rintro e W4 ⟨g4a, g4b, rfl, hg4a, ho4a, hg4b, ho4b, hb4⟩
  have hF4a : FreshA cIn 1 3 _ _ _ _ _ := .inr ⟨g4a, rfl, hg4a, ho4a⟩
  have hr4a := hF4a.rds
  have hlo4a := hF4a.lo
  have hhi4a := hF4a.hi
  have HF4a := hid hF4a
  clear hF4a
  try simp at hlo4a
  clear ho4a hg4a
  have hF4b : FreshA cPu 3 71 _ _ _ _ _ := .inr ⟨g4b, rfl, hg4b, ho4b⟩
  have hr4b := hF4b.rds
  have hlo4b := hF4b.lo
  have hhi4b := hF4b.hi
  have HF4b := hid hF4b
  clear hF4b
  try simp at hlo4b
  clear ho4b hg4b
  have hc4 := cellOf hb4
  have hf4 := frozOf hb4
  have hz4 := sizeOf hb4
  try simp at hz4
  go_wp2_with (fail)
  refine (c_impl_WithoutPump _ _ _ _ _ _ _ _ _ _ _ (by first | exact hr4a | exact Rds.below hr4a (by (repeat' (first | exact Below.refl _ _ | assumption | refine Below.setCell ?_ ?_ _ | refine Below.drew ?_ | refine Below.alloc ?_ ?_ _ | refine Below.trans ?_ (Below.mono (by assumption) ?_) | (simp; done) | (simp; omega) | omega)))) (by omega) (by first | exact hr4b | exact Rds.below hr4b (by (repeat' (first | exact Below.refl _ _ | assumption | refine Below.setCell ?_ ?_ _ | refine Below.drew ?_ | refine Below.alloc ?_ ?_ _ | refine Below.trans ?_ (Below.mono (by assumption) ?_) | (simp; done) | (simp; omega) | omega)))) (by omega) ).mono ?_
  rintro e W5 ⟨A5a, cp5a, A5b, cp5b, rfl, hF5a, hF5b, hb5⟩
  have hr5a := hF5a.rds
  have hlo5a := hF5a.lo
  have hhi5a := hF5a.hi
  have HF5a := hid hF5a
  clear hF5a
  try simp at hlo5a
  have hr5b := hF5b.rds
  have hlo5b := hF5b.lo
  have hhi5b := hF5b.hi
  have HF5b := hid hF5b
  clear hF5b
  try simp at hlo5b
  have hc5 := cellOf hb5
  have hf5 := frozOf hb5
  have hz5 := sizeOf hb5
  try simp at hz5
  go_wp2_with (fail)
  refine (c_laws_eqPumpTask _ _ _ _ _ _ _ _ _ _ _ _ _ _ _ _ _ _ _ (by first | exact hr5a | exact Rds.below hr5a (by (repeat' (first | exact Below.refl _ _ | assumption | refine Below.setCell ?_ ?_ _ | refine Below.drew ?_ | refine Below.alloc ?_ ?_ _ | refine Below.trans ?_ (Below.mono (by assumption) ?_) | (simp; done) | (simp; omega) | omega)))) (by first | exact hr3a | exact Rds.below hr3a (by (repeat' (first | exact Below.refl _ _ | assumption | refine Below.setCell ?_ ?_ _ | refine Below.drew ?_ | refine Below.alloc ?_ ?_ _ | refine Below.trans ?_ (Below.mono (by assumption) ?_) | (simp; done) | (simp; omega) | omega)))) (by first | exact hr5b | exact Rds.below hr5b (by (repeat' (first | exact Below.refl _ _ | assumption | refine Below.setCell ?_ ?_ _ | refine Below.drew ?_ | refine Below.alloc ?_ ?_ _ | refine Below.trans ?_ (Below.mono (by assumption) ?_) | (simp; done) | (simp; omega) | omega)))) (by first | exact hr3b | exact Rds.below hr3b (by (repeat' (first | exact Below.refl _ _ | assumption | refine Below.setCell ?_ ?_ _ | refine Below.drew ?_ | refine Below.alloc ?_ ?_ _ | refine Below.trans ?_ (Below.mono (by assumption) ?_) | (simp; done) | (simp; omega) | omega)))) (by omega) (by omega) (by omega) (by omega) ⟨rfl, rfl, rfl, rfl, rfl⟩).mono ?_
  rintro e W6 ⟨rfl, hb6⟩
  have hc6 := cellOf hb6
  have hf6 := frozOf hb6
  have hz6 := sizeOf hb6
  try simp at hz6
  go_wp2_with (fail)
  refine wp_region_w (n := 5) [] [] (FS8_10 l u v A fs fs.length capf g4a B ps ps.length capq g4b W4 w) rfl (by kernel_rfl) (fun _ _ d _ _ h => by cases d <;> exact h) ?_ ?_ ?_ ?_ ?_ ?_
  · intro iq
    match iq with
    | 0 | 1 | 3 | 4 => exact Stable.const _
    | 2 => exact FreshTk.stable
    | n + 5 => exact Stable.const _
  · intro iq hi
    exact absurd hi (by simp)
  · intro iq hi
    exact absurd hi (by simp)
  · intro iq o hi hl ho vals w1 hb1 hf
    exact absurd hl (by simp)
  · intro iq o hi hl ho vals w1 hb1 hf
    match iq, hi with
    | 0, _ =>
      injection ho with ho
      subst ho
      clear hl
      simp only [fillA, List.take, List.drop, put_none, Act.put, List.setIfInBounds_toArray, List.set_cons_zero, List.set_cons_succ, Nat.reduceAdd]
      clear hf
      have hc1 := cellOf hb1
      have hf1 := frozOf hb1
      have hz1 := sizeOf hb1
      try simp at hz1
      go_wp2_with (fail)
      exact RQ.mk rfl ⟨(by first | rfl | (simp [FS8_10]; done) | (simp [FS8_10, *]; done) | (simp [FS8_10, gotV]; done) | (simp [FS8_10, gotV]; omega)), fun h => absurd h (by decide)⟩ (Below.refl _ _)
    | 1, _ =>
      injection ho with ho
      subst ho
      clear hl
      simp only [fillA, List.take, List.drop, put_none, Act.put, List.setIfInBounds_toArray, List.set_cons_zero, List.set_cons_succ, Nat.reduceAdd]
      clear hf
      have hc1 := cellOf hb1
      have hf1 := frozOf hb1
      have hz1 := sizeOf hb1
      try simp at hz1
      go_wp2_with (fail)
      exact RQ.mk rfl ⟨(by first | rfl | (simp [FS8_10]; done) | (simp [FS8_10, *]; done) | (simp [FS8_10, gotV]; done) | (simp [FS8_10, gotV]; omega)), fun h => absurd h (by decide)⟩ (Below.refl _ _)
    | 2, _ =>
      injection ho with ho
      subst ho
      clear hl
      simp only [fillA, List.take, List.drop, put_none, Act.put, List.setIfInBounds_toArray, List.set_cons_zero, List.set_cons_succ, Nat.reduceAdd]
      have f1 := hf 1 (by decide) (by kernel_rfl)
      generalize vals 1 = v1 at *
      subst f1
      clear hf
      have hc1 := cellOf hb1
      have hf1 := frozOf hb1
      have hz1 := sizeOf hb1
      try simp at hz1
      go_wp2_with (first | (go_at_call 15; refine (c_laws_toPumpTask _ _ _ _ _ _ _ _ _ _ (by first | assumption | exact Rds.below (by assumption) (by (repeat' (first | exact Below.refl _ _ | assumption | refine Below.setCell ?_ ?_ _ | refine Below.drew ?_ | refine Below.alloc ?_ ?_ _ | refine Below.trans ?_ (Below.mono (by assumption) ?_) | (simp; done) | (simp; omega) | omega)))) (by omega) (by first | assumption | exact Rds.below (by assumption) (by (repeat' (first | exact Below.refl _ _ | assumption | refine Below.setCell ?_ ?_ _ | refine Below.drew ?_ | refine Below.alloc ?_ ?_ _ | refine Below.trans ?_ (Below.mono (by assumption) ?_) | (simp; done) | (simp; omega) | omega)))) (by omega)).mono ?_; rintro e w' ⟨g, g', rfl, hg, ho, hg2, ho2, hb⟩; have hr := ho.rds; have hlo := ho.lt; have HO := hid ho; clear ho; have hr2 := ho2.rds; have hlo2 := ho2.lt; have HO2 := hid ho2; clear ho2; have hc := cellOf hb; have hf := frozOf hb; have hz := sizeOf hb; try simp at hz))
      exact RQ.mk rfl ⟨⟨_, _, rfl, (by first | omega | (simp at *; omega)), HO.out, (by first | omega | (simp at *; omega)), HO2.out⟩, fun h => absurd h (by decide)⟩ (by (repeat' (first | exact Below.refl _ _ | assumption | refine Below.setCell ?_ ?_ _ | refine Below.drew ?_ | refine Below.alloc ?_ ?_ _ | refine Below.trans ?_ (Below.mono (by assumption) ?_) | (simp; done) | (simp; omega) | omega)))
    | 3, _ =>
      injection ho with ho
      subst ho
      clear hl
      simp only [fillA, List.take, List.drop, put_none, Act.put, List.setIfInBounds_toArray, List.set_cons_zero, List.set_cons_succ, Nat.reduceAdd]
      have f0 := hf 0 (by decide) (by kernel_rfl)
      generalize vals 0 = v0 at *
      subst f0
      have f2 := hf 2 (by decide) (by kernel_rfl)
      generalize vals 2 = v2 at *
      obtain ⟨gr1, gr1k, rfl, hgr1a, hgr1b, hgr1c, hgr1d⟩ := f2
      try simp at hgr1a hgr1c
      have hgr1r := hgr1b.rds
      have hgr1l := hgr1b.lt
      have hgr1s := hgr1d.rds
      have hgr1m := hgr1d.lt
      clear hgr1b hgr1d
      clear hf
      have hc1 := cellOf hb1
      have hf1 := frozOf hb1
      have hz1 := sizeOf hb1
      try simp at hz1
      go_wp2_with (first | (go_at_call 18; refine (c_laws_eqPumpTask _ _ _ _ _ _ _ _ _ _ _ _ _ _ _ _ _ _ _ (by first | assumption | exact Rds.below (by assumption) (by (repeat' (first | exact Below.refl _ _ | assumption | refine Below.setCell ?_ ?_ _ | refine Below.drew ?_ | refine Below.alloc ?_ ?_ _ | refine Below.trans ?_ (Below.mono (by assumption) ?_) | (simp; done) | (simp; omega) | omega)))) (by first | assumption | exact Rds.below (by assumption) (by (repeat' (first | exact Below.refl _ _ | assumption | refine Below.setCell ?_ ?_ _ | refine Below.drew ?_ | refine Below.alloc ?_ ?_ _ | refine Below.trans ?_ (Below.mono (by assumption) ?_) | (simp; done) | (simp; omega) | omega)))) (by first | assumption | exact Rds.below (by assumption) (by (repeat' (first | exact Below.refl _ _ | assumption | refine Below.setCell ?_ ?_ _ | refine Below.drew ?_ | refine Below.alloc ?_ ?_ _ | refine Below.trans ?_ (Below.mono (by assumption) ?_) | (simp; done) | (simp; omega) | omega)))) (by first | assumption | exact Rds.below (by assumption) (by (repeat' (first | exact Below.refl _ _ | assumption | refine Below.setCell ?_ ?_ _ | refine Below.drew ?_ | refine Below.alloc ?_ ?_ _ | refine Below.trans ?_ (Below.mono (by assumption) ?_) | (simp; done) | (simp; omega) | omega)))) (by omega) (by omega) (by omega) (by omega) ⟨rfl, rfl, rfl, rfl, rfl⟩).mono ?_; rintro e w' ⟨rfl, hb⟩; have hc := cellOf hb; have hf := frozOf hb; have hz := sizeOf hb; try simp at hz))
      exact RQ.mk rfl ⟨(by first | rfl | (simp [FS8_10]; done) | (simp [FS8_10, *]; done) | (simp [FS8_10, gotV]; done) | (simp [FS8_10, gotV]; omega)), fun h => absurd h (by decide)⟩ (by (repeat' (first | exact Below.refl _ _ | assumption | refine Below.setCell ?_ ?_ _ | refine Below.drew ?_ | refine Below.alloc ?_ ?_ _ | refine Below.trans ?_ (Below.mono (by assumption) ?_) | (simp; done) | (simp; omega) | omega)))
    | 4, _ =>
      injection ho with ho
      subst ho
      clear hl
      simp only [fillA, List.take, List.drop, put_none, Act.put, List.setIfInBounds_toArray, List.set_cons_zero, List.set_cons_succ, Nat.reduceAdd]
      have f3 := hf 3 (by decide) (by kernel_rfl)
      generalize vals 3 = v3 at *
      subst f3
      clear hf
      go_wp2_with (fail)
      exact RQ.mk rfl ⟨(by first | rfl | (simp [FS8_10]; done) | (simp [FS8_10, *]; done) | (simp [FS8_10, gotV]; done) | (simp [FS8_10, gotV]; omega)), fun h => absurd h (by decide)⟩ (Below.refl _ _)
  · intro vals w1 hb1 hf hd
    simp only [fillA, List.take, List.drop, put_none, Act.put, List.setIfInBounds_toArray, List.set_cons_zero, List.set_cons_succ, Nat.reduceAdd]
    clear hd
    have f0 := hf 0 (by decide)
    generalize vals 0 = v0 at *
    subst f0
    have f1 := hf 1 (by decide)
    generalize vals 1 = v1 at *
    subst f1
    have f2 := hf 2 (by decide)
    generalize vals 2 = v2 at *
    obtain ⟨gr1, gr1k, rfl, hgr1a, hgr1b, hgr1c, hgr1d⟩ := f2
    try simp at hgr1a hgr1c
    have hgr1r := hgr1b.rds
    have hgr1l := hgr1b.lt
    have hgr1s := hgr1d.rds
    have hgr1m := hgr1d.lt
    have Hgr1 := hid hgr1b
    have Hgr1k := hid hgr1d
    clear hgr1b hgr1d
    have f3 := hf 3 (by decide)
    generalize vals 3 = v3 at *
    subst f3
    have f4 := hf 4 (by decide)
    generalize vals 4 = v4 at *
    subst f4
    clear hf
    have hc1 := cellOf hb1
    have hf1 := frozOf hb1
    have hz1 := sizeOf hb1
    try simp at hz1
    go_wp2_with (fail)
    refine (c_laws_markPumpTask _ _ _ _ _ _ _ _ _ _ _ _ _ (FreshA.below HF4a.out (by (repeat' (first | exact Below.refl _ _ | assumption | refine Below.setCell ?_ ?_ _ | refine Below.drew ?_ | refine Below.alloc ?_ ?_ _ | refine Below.trans ?_ (Below.mono (by assumption) ?_) | (simp; done) | (simp; omega) | omega)))) (FreshA.below HF4b.out (by (repeat' (first | exact Below.refl _ _ | assumption | refine Below.setCell ?_ ?_ _ | refine Below.drew ?_ | refine Below.alloc ?_ ?_ _ | refine Below.trans ?_ (Below.mono (by assumption) ?_) | (simp; done) | (simp; omega) | omega)))) (by omega) (by omega) (by omega)).mono ?_
    rintro e W7 ⟨W7a, rfl, hF7a, hg7a, hF7b, hg7b⟩
    have hb7a := below_of_grown hg7a hlo4a (by (try simp); omega)
    have hc7a := cellGrown hg7a hlo4a hhi4a
    have hf7a := frozGrown hg7a hlo4a hhi4a
    have hz7a := hg7a.size
    try simp at hz7a
    have hn7a_aT_3 := RdsN.past (Rds.toN hr_fs) (by first | exact Nat.le_refl _ | omega) (by (repeat' (first | exact Below.refl _ _ | assumption | refine Below.setCell ?_ ?_ _ | refine Below.drew ?_ | refine Below.alloc ?_ ?_ _ | refine Below.trans ?_ (Below.mono (by assumption) ?_) | (simp; done) | (simp; omega) | omega))) hg7a hlo4a (by omega)
    have hr7a_aT_3 := RdsN.rds hn7a_aT_3 (by omega)
    have hn7a_aT_4 := RdsN.past (Rds.toN hr_ps) (by first | exact Nat.le_refl _ | omega) (by (repeat' (first | exact Below.refl _ _ | assumption | refine Below.setCell ?_ ?_ _ | refine Below.drew ?_ | refine Below.alloc ?_ ?_ _ | refine Below.trans ?_ (Below.mono (by assumption) ?_) | (simp; done) | (simp; omega) | omega))) hg7a hlo4a (by omega)
    have hr7a_aT_4 := RdsN.rds hn7a_aT_4 (by omega)
    have hn7a_w0_3 := RdsN.past (Rds.toN hr3a) (by first | exact Nat.le_refl _ | omega) (by (repeat' (first | exact Below.refl _ _ | assumption | refine Below.setCell ?_ ?_ _ | refine Below.drew ?_ | refine Below.alloc ?_ ?_ _ | refine Below.trans ?_ (Below.mono (by assumption) ?_) | (simp; done) | (simp; omega) | omega))) hg7a hlo4a (by omega)
    have hr7a_w0_3 := RdsN.rds hn7a_w0_3 (by omega)
    have hn7a_w0_4 := RdsN.past (Rds.toN hr3b) (by first | exact Nat.le_refl _ | omega) (by (repeat' (first | exact Below.refl _ _ | assumption | refine Below.setCell ?_ ?_ _ | refine Below.drew ?_ | refine Below.alloc ?_ ?_ _ | refine Below.trans ?_ (Below.mono (by assumption) ?_) | (simp; done) | (simp; omega) | omega))) hg7a hlo4a (by omega)
    have hr7a_w0_4 := RdsN.rds hn7a_w0_4 (by omega)
    have hF7a_m := FreshA.grown (FreshA.below HF4b.out (by (repeat' (first | exact Below.refl _ _ | assumption | refine Below.setCell ?_ ?_ _ | refine Below.drew ?_ | refine Below.alloc ?_ ?_ _ | refine Below.trans ?_ (Below.mono (by assumption) ?_) | (simp; done) | (simp; omega) | omega)))) hg7a (FreshA.apart (FreshA.below HF4b.out (by (repeat' (first | exact Below.refl _ _ | assumption | refine Below.setCell ?_ ?_ _ | refine Below.drew ?_ | refine Below.alloc ?_ ?_ _ | refine Below.trans ?_ (Below.mono (by assumption) ?_) | (simp; done) | (simp; omega) | omega)))) (FreshA.below HF4a.out (by (repeat' (first | exact Below.refl _ _ | assumption | refine Below.setCell ?_ ?_ _ | refine Below.drew ?_ | refine Below.alloc ?_ ?_ _ | refine Below.trans ?_ (Below.mono (by assumption) ?_) | (simp; done) | (simp; omega) | omega)))) (by decide))
    have hr7a_m := hF7a_m.rds
    have HF7a_m := hid hF7a_m
    clear hF7a_m
    have hF7a_g0_3 := FreshA.grown (FreshA.below HF5a.out (by (repeat' (first | exact Below.refl _ _ | assumption | refine Below.setCell ?_ ?_ _ | refine Below.drew ?_ | refine Below.alloc ?_ ?_ _ | refine Below.trans ?_ (Below.mono (by assumption) ?_) | (simp; done) | (simp; omega) | omega)))) hg7a (apart_hl (Lo.mono hlo5a (by omega)) hhi4a)
    have hr7a_g0_3 := hF7a_g0_3.rds
    have HF7a_g0_3 := hid hF7a_g0_3
    clear hF7a_g0_3
    have hF7a_g0_4 := FreshA.grown (FreshA.below HF5b.out (by (repeat' (first | exact Below.refl _ _ | assumption | refine Below.setCell ?_ ?_ _ | refine Below.drew ?_ | refine Below.alloc ?_ ?_ _ | refine Below.trans ?_ (Below.mono (by assumption) ?_) | (simp; done) | (simp; omega) | omega)))) hg7a (apart_hl (Lo.mono hlo5b (by omega)) hhi4a)
    have hr7a_g0_4 := hF7a_g0_4.rds
    have HF7a_g0_4 := hid hF7a_g0_4
    clear hF7a_g0_4
    have hr7a := hF7a.rds
    have HF7a := hid hF7a
    clear hF7a
    have hb7b := below_of_grown hg7b hlo4b (by (try simp); omega)
    have hc7b := cellGrown hg7b hlo4b hhi4b
    have hf7b := frozGrown hg7b hlo4b hhi4b
    have hz7b := hg7b.size
    try simp at hz7b
    have hn7b_aT_3 := RdsN.past (hn7a_aT_3) (by first | exact Nat.le_refl _ | omega) (by (repeat' (first | exact Below.refl _ _ | assumption | refine Below.setCell ?_ ?_ _ | refine Below.drew ?_ | refine Below.alloc ?_ ?_ _ | refine Below.trans ?_ (Below.mono (by assumption) ?_) | (simp; done) | (simp; omega) | omega))) hg7b hlo4b (by omega)
    have hr7b_aT_3 := RdsN.rds hn7b_aT_3 (by omega)
    have hn7b_aT_4 := RdsN.past (hn7a_aT_4) (by first | exact Nat.le_refl _ | omega) (by (repeat' (first | exact Below.refl _ _ | assumption | refine Below.setCell ?_ ?_ _ | refine Below.drew ?_ | refine Below.alloc ?_ ?_ _ | refine Below.trans ?_ (Below.mono (by assumption) ?_) | (simp; done) | (simp; omega) | omega))) hg7b hlo4b (by omega)
    have hr7b_aT_4 := RdsN.rds hn7b_aT_4 (by omega)
    have hn7b_w0_3 := RdsN.past (hn7a_w0_3) (by first | exact Nat.le_refl _ | omega) (by (repeat' (first | exact Below.refl _ _ | assumption | refine Below.setCell ?_ ?_ _ | refine Below.drew ?_ | refine Below.alloc ?_ ?_ _ | refine Below.trans ?_ (Below.mono (by assumption) ?_) | (simp; done) | (simp; omega) | omega))) hg7b hlo4b (by omega)
    have hr7b_w0_3 := RdsN.rds hn7b_w0_3 (by omega)
    have hn7b_w0_4 := RdsN.past (hn7a_w0_4) (by first | exact Nat.le_refl _ | omega) (by (repeat' (first | exact Below.refl _ _ | assumption | refine Below.setCell ?_ ?_ _ | refine Below.drew ?_ | refine Below.alloc ?_ ?_ _ | refine Below.trans ?_ (Below.mono (by assumption) ?_) | (simp; done) | (simp; omega) | omega))) hg7b hlo4b (by omega)
    have hr7b_w0_4 := RdsN.rds hn7b_w0_4 (by omega)
    have hF7b_m := FreshA.grown (FreshA.below HF7a.out (by (repeat' (first | exact Below.refl _ _ | assumption | refine Below.setCell ?_ ?_ _ | refine Below.drew ?_ | refine Below.alloc ?_ ?_ _ | refine Below.trans ?_ (Below.mono (by assumption) ?_) | (simp; done) | (simp; omega) | omega)))) hg7b (FreshA.apart (FreshA.below HF7a.out (by (repeat' (first | exact Below.refl _ _ | assumption | refine Below.setCell ?_ ?_ _ | refine Below.drew ?_ | refine Below.alloc ?_ ?_ _ | refine Below.trans ?_ (Below.mono (by assumption) ?_) | (simp; done) | (simp; omega) | omega)))) (FreshA.below HF7a_m.out (by (repeat' (first | exact Below.refl _ _ | assumption | refine Below.setCell ?_ ?_ _ | refine Below.drew ?_ | refine Below.alloc ?_ ?_ _ | refine Below.trans ?_ (Below.mono (by assumption) ?_) | (simp; done) | (simp; omega) | omega)))) (by decide))
    have hr7b_m := hF7b_m.rds
    have HF7b_m := hid hF7b_m
    clear hF7b_m
    have hF7b_g0_3 := FreshA.grown (FreshA.below HF7a_g0_3.out (by (repeat' (first | exact Below.refl _ _ | assumption | refine Below.setCell ?_ ?_ _ | refine Below.drew ?_ | refine Below.alloc ?_ ?_ _ | refine Below.trans ?_ (Below.mono (by assumption) ?_) | (simp; done) | (simp; omega) | omega)))) hg7b (apart_hl (Lo.mono hlo5a (by omega)) hhi4b)
    have hr7b_g0_3 := hF7b_g0_3.rds
    have HF7b_g0_3 := hid hF7b_g0_3
    clear hF7b_g0_3
    have hF7b_g0_4 := FreshA.grown (FreshA.below HF7a_g0_4.out (by (repeat' (first | exact Below.refl _ _ | assumption | refine Below.setCell ?_ ?_ _ | refine Below.drew ?_ | refine Below.alloc ?_ ?_ _ | refine Below.trans ?_ (Below.mono (by assumption) ?_) | (simp; done) | (simp; omega) | omega)))) hg7b (apart_hl (Lo.mono hlo5b (by omega)) hhi4b)
    have hr7b_g0_4 := hF7b_g0_4.rds
    have HF7b_g0_4 := hid hF7b_g0_4
    clear hF7b_g0_4
    have hr7b := hF7b.rds
    have HF7b := hid hF7b
    clear hF7b
    go_wp2_with (fail)
    refine (c_laws_eqPumpTask _ _ _ _ _ _ _ _ _ _ _ _ _ _ _ _ _ _ _ (by first | exact hr7b_g0_3 | exact Rds.below hr7b_g0_3 (by (repeat' (first | exact Below.refl _ _ | assumption | refine Below.setCell ?_ ?_ _ | refine Below.drew ?_ | refine Below.alloc ?_ ?_ _ | refine Below.trans ?_ (Below.mono (by assumption) ?_) | (simp; done) | (simp; omega) | omega)))) (by first | exact hr7b_w0_3 | exact Rds.below hr7b_w0_3 (by (repeat' (first | exact Below.refl _ _ | assumption | refine Below.setCell ?_ ?_ _ | refine Below.drew ?_ | refine Below.alloc ?_ ?_ _ | refine Below.trans ?_ (Below.mono (by assumption) ?_) | (simp; done) | (simp; omega) | omega)))) (by first | exact hr7b_g0_4 | exact Rds.below hr7b_g0_4 (by (repeat' (first | exact Below.refl _ _ | assumption | refine Below.setCell ?_ ?_ _ | refine Below.drew ?_ | refine Below.alloc ?_ ?_ _ | refine Below.trans ?_ (Below.mono (by assumption) ?_) | (simp; done) | (simp; omega) | omega)))) (by first | exact hr7b_w0_4 | exact Rds.below hr7b_w0_4 (by (repeat' (first | exact Below.refl _ _ | assumption | refine Below.setCell ?_ ?_ _ | refine Below.drew ?_ | refine Below.alloc ?_ ?_ _ | refine Below.trans ?_ (Below.mono (by assumption) ?_) | (simp; done) | (simp; omega) | omega)))) (by omega) (by omega) (by omega) (by omega) ⟨rfl, rfl, rfl, rfl, rfl⟩).mono ?_
    rintro e W8 ⟨rfl, hb8⟩
    have hc8 := cellOf hb8
    have hf8 := frozOf hb8
    have hz8 := sizeOf hb8
    try simp at hz8
    go_wp2_with (fail)
    refine (c_laws_markPumpTask _ _ _ _ _ _ _ _ _ _ _ _ _ (FreshA.below HF7b_g0_3.out (by (repeat' (first | exact Below.refl _ _ | assumption | refine Below.setCell ?_ ?_ _ | refine Below.drew ?_ | refine Below.alloc ?_ ?_ _ | refine Below.trans ?_ (Below.mono (by assumption) ?_) | (simp; done) | (simp; omega) | omega)))) (FreshA.below HF7b_g0_4.out (by (repeat' (first | exact Below.refl _ _ | assumption | refine Below.setCell ?_ ?_ _ | refine Below.drew ?_ | refine Below.alloc ?_ ?_ _ | refine Below.trans ?_ (Below.mono (by assumption) ?_) | (simp; done) | (simp; omega) | omega)))) (by omega) (by omega) (by omega)).mono ?_
    rintro e W9 ⟨W9a, rfl, hF9a, hg9a, hF9b, hg9b⟩
    have hb9a := below_of_grown hg9a hlo5a (by (try simp); omega)
    have hc9a := cellGrown hg9a hlo5a hhi5a
    have hf9a := frozGrown hg9a hlo5a hhi5a
    have hz9a := hg9a.size
    try simp at hz9a
    have hn9a_aT_3 := RdsN.past (hn7b_aT_3) (by first | exact Nat.le_refl _ | omega) (by (repeat' (first | exact Below.refl _ _ | assumption | refine Below.setCell ?_ ?_ _ | refine Below.drew ?_ | refine Below.alloc ?_ ?_ _ | refine Below.trans ?_ (Below.mono (by assumption) ?_) | (simp; done) | (simp; omega) | omega))) hg9a hlo5a (by omega)
    have hr9a_aT_3 := RdsN.rds hn9a_aT_3 (by omega)
    have hn9a_aT_4 := RdsN.past (hn7b_aT_4) (by first | exact Nat.le_refl _ | omega) (by (repeat' (first | exact Below.refl _ _ | assumption | refine Below.setCell ?_ ?_ _ | refine Below.drew ?_ | refine Below.alloc ?_ ?_ _ | refine Below.trans ?_ (Below.mono (by assumption) ?_) | (simp; done) | (simp; omega) | omega))) hg9a hlo5a (by omega)
    have hr9a_aT_4 := RdsN.rds hn9a_aT_4 (by omega)
    have hn9a_w0_3 := RdsN.past (hn7b_w0_3) (by first | exact Nat.le_refl _ | omega) (by (repeat' (first | exact Below.refl _ _ | assumption | refine Below.setCell ?_ ?_ _ | refine Below.drew ?_ | refine Below.alloc ?_ ?_ _ | refine Below.trans ?_ (Below.mono (by assumption) ?_) | (simp; done) | (simp; omega) | omega))) hg9a hlo5a (by omega)
    have hr9a_w0_3 := RdsN.rds hn9a_w0_3 (by omega)
    have hn9a_w0_4 := RdsN.past (hn7b_w0_4) (by first | exact Nat.le_refl _ | omega) (by (repeat' (first | exact Below.refl _ _ | assumption | refine Below.setCell ?_ ?_ _ | refine Below.drew ?_ | refine Below.alloc ?_ ?_ _ | refine Below.trans ?_ (Below.mono (by assumption) ?_) | (simp; done) | (simp; omega) | omega))) hg9a hlo5a (by omega)
    have hr9a_w0_4 := RdsN.rds hn9a_w0_4 (by omega)
    have hn9a_x0_3 := RdsN.past (RdsN.ofHi hr7b_m hhi4a) (by first | exact Nat.le_refl _ | omega) (by (repeat' (first | exact Below.refl _ _ | assumption | refine Below.setCell ?_ ?_ _ | refine Below.drew ?_ | refine Below.alloc ?_ ?_ _ | refine Below.trans ?_ (Below.mono (by assumption) ?_) | (simp; done) | (simp; omega) | omega))) hg9a hlo5a (by omega)
    have hr9a_x0_3 := RdsN.rds hn9a_x0_3 (by omega)
    have hn9a_x0_4 := RdsN.past (RdsN.ofHi hr7b hhi4b) (by first | exact Nat.le_refl _ | omega) (by (repeat' (first | exact Below.refl _ _ | assumption | refine Below.setCell ?_ ?_ _ | refine Below.drew ?_ | refine Below.alloc ?_ ?_ _ | refine Below.trans ?_ (Below.mono (by assumption) ?_) | (simp; done) | (simp; omega) | omega))) hg9a hlo5a (by omega)
    have hr9a_x0_4 := RdsN.rds hn9a_x0_4 (by omega)
    have hF9a_m := FreshA.grown (FreshA.below HF7b_g0_4.out (by (repeat' (first | exact Below.refl _ _ | assumption | refine Below.setCell ?_ ?_ _ | refine Below.drew ?_ | refine Below.alloc ?_ ?_ _ | refine Below.trans ?_ (Below.mono (by assumption) ?_) | (simp; done) | (simp; omega) | omega)))) hg9a (FreshA.apart (FreshA.below HF7b_g0_4.out (by (repeat' (first | exact Below.refl _ _ | assumption | refine Below.setCell ?_ ?_ _ | refine Below.drew ?_ | refine Below.alloc ?_ ?_ _ | refine Below.trans ?_ (Below.mono (by assumption) ?_) | (simp; done) | (simp; omega) | omega)))) (FreshA.below HF7b_g0_3.out (by (repeat' (first | exact Below.refl _ _ | assumption | refine Below.setCell ?_ ?_ _ | refine Below.drew ?_ | refine Below.alloc ?_ ?_ _ | refine Below.trans ?_ (Below.mono (by assumption) ?_) | (simp; done) | (simp; omega) | omega)))) (by decide))
    have hr9a_m := hF9a_m.rds
    have HF9a_m := hid hF9a_m
    clear hF9a_m
    have hr9a := hF9a.rds
    have HF9a := hid hF9a
    clear hF9a
    have hb9b := below_of_grown hg9b hlo5b (by (try simp); omega)
    have hc9b := cellGrown hg9b hlo5b hhi5b
    have hf9b := frozGrown hg9b hlo5b hhi5b
    have hz9b := hg9b.size
    try simp at hz9b
    have hn9b_aT_3 := RdsN.past (hn9a_aT_3) (by first | exact Nat.le_refl _ | omega) (by (repeat' (first | exact Below.refl _ _ | assumption | refine Below.setCell ?_ ?_ _ | refine Below.drew ?_ | refine Below.alloc ?_ ?_ _ | refine Below.trans ?_ (Below.mono (by assumption) ?_) | (simp; done) | (simp; omega) | omega))) hg9b hlo5b (by omega)
    have hr9b_aT_3 := RdsN.rds hn9b_aT_3 (by omega)
    have hn9b_aT_4 := RdsN.past (hn9a_aT_4) (by first | exact Nat.le_refl _ | omega) (by (repeat' (first | exact Below.refl _ _ | assumption | refine Below.setCell ?_ ?_ _ | refine Below.drew ?_ | refine Below.alloc ?_ ?_ _ | refine Below.trans ?_ (Below.mono (by assumption) ?_) | (simp; done) | (simp; omega) | omega))) hg9b hlo5b (by omega)
    have hr9b_aT_4 := RdsN.rds hn9b_aT_4 (by omega)
    have hn9b_w0_3 := RdsN.past (hn9a_w0_3) (by first | exact Nat.le_refl _ | omega) (by (repeat' (first | exact Below.refl _ _ | assumption | refine Below.setCell ?_ ?_ _ | refine Below.drew ?_ | refine Below.alloc ?_ ?_ _ | refine Below.trans ?_ (Below.mono (by assumption) ?_) | (simp; done) | (simp; omega) | omega))) hg9b hlo5b (by omega)
    have hr9b_w0_3 := RdsN.rds hn9b_w0_3 (by omega)
    have hn9b_w0_4 := RdsN.past (hn9a_w0_4) (by first | exact Nat.le_refl _ | omega) (by (repeat' (first | exact Below.refl _ _ | assumption | refine Below.setCell ?_ ?_ _ | refine Below.drew ?_ | refine Below.alloc ?_ ?_ _ | refine Below.trans ?_ (Below.mono (by assumption) ?_) | (simp; done) | (simp; omega) | omega))) hg9b hlo5b (by omega)
    have hr9b_w0_4 := RdsN.rds hn9b_w0_4 (by omega)
    have hn9b_x0_3 := RdsN.past (hn9a_x0_3) (by first | exact Nat.le_refl _ | omega) (by (repeat' (first | exact Below.refl _ _ | assumption | refine Below.setCell ?_ ?_ _ | refine Below.drew ?_ | refine Below.alloc ?_ ?_ _ | refine Below.trans ?_ (Below.mono (by assumption) ?_) | (simp; done) | (simp; omega) | omega))) hg9b hlo5b (by omega)
    have hr9b_x0_3 := RdsN.rds hn9b_x0_3 (by omega)
    have hn9b_x0_4 := RdsN.past (hn9a_x0_4) (by first | exact Nat.le_refl _ | omega) (by (repeat' (first | exact Below.refl _ _ | assumption | refine Below.setCell ?_ ?_ _ | refine Below.drew ?_ | refine Below.alloc ?_ ?_ _ | refine Below.trans ?_ (Below.mono (by assumption) ?_) | (simp; done) | (simp; omega) | omega))) hg9b hlo5b (by omega)
    have hr9b_x0_4 := RdsN.rds hn9b_x0_4 (by omega)
    have hF9b_m := FreshA.grown (FreshA.below HF9a.out (by (repeat' (first | exact Below.refl _ _ | assumption | refine Below.setCell ?_ ?_ _ | refine Below.drew ?_ | refine Below.alloc ?_ ?_ _ | refine Below.trans ?_ (Below.mono (by assumption) ?_) | (simp; done) | (simp; omega) | omega)))) hg9b (FreshA.apart (FreshA.below HF9a.out (by (repeat' (first | exact Below.refl _ _ | assumption | refine Below.setCell ?_ ?_ _ | refine Below.drew ?_ | refine Below.alloc ?_ ?_ _ | refine Below.trans ?_ (Below.mono (by assumption) ?_) | (simp; done) | (simp; omega) | omega)))) (FreshA.below HF9a_m.out (by (repeat' (first | exact Below.refl _ _ | assumption | refine Below.setCell ?_ ?_ _ | refine Below.drew ?_ | refine Below.alloc ?_ ?_ _ | refine Below.trans ?_ (Below.mono (by assumption) ?_) | (simp; done) | (simp; omega) | omega)))) (by decide))
    have hr9b_m := hF9b_m.rds
    have HF9b_m := hid hF9b_m
    clear hF9b_m
    have hr9b := hF9b.rds
    have HF9b := hid hF9b
    clear hF9b
    go_wp2_with (fail)
    refine (c_laws_heldPumpTask _ _ _ _ _ _ _ _ _ _ _ (by first | exact hr9b_m | exact Rds.below hr9b_m (by (repeat' (first | exact Below.refl _ _ | assumption | refine Below.setCell ?_ ?_ _ | refine Below.drew ?_ | refine Below.alloc ?_ ?_ _ | refine Below.trans ?_ (Below.mono (by assumption) ?_) | (simp; done) | (simp; omega) | omega)))) (by first | exact hr9b | exact Rds.below hr9b (by (repeat' (first | exact Below.refl _ _ | assumption | refine Below.setCell ?_ ?_ _ | refine Below.drew ?_ | refine Below.alloc ?_ ?_ _ | refine Below.trans ?_ (Below.mono (by assumption) ?_) | (simp; done) | (simp; omega) | omega)))) (by omega) (by omega) (by omega)).mono ?_
    rintro e W10 ⟨rfl, hb10⟩
    have hc10 := cellOf hb10
    have hf10 := frozOf hb10
    have hz10 := sizeOf hb10
    try simp at hz10
    go_wp2_with (fail)
    refine (c_laws_toPumpTask l u v _ _ _ _ _ _ _ (by first | exact hr9b_aT_3 | exact Rds.below hr9b_aT_3 (by (repeat' (first | exact Below.refl _ _ | assumption | refine Below.setCell ?_ ?_ _ | refine Below.drew ?_ | refine Below.alloc ?_ ?_ _ | refine Below.trans ?_ (Below.mono (by assumption) ?_) | (simp; done) | (simp; omega) | omega)))) (by omega) (by first | exact hr9b_aT_4 | exact Rds.below hr9b_aT_4 (by (repeat' (first | exact Below.refl _ _ | assumption | refine Below.setCell ?_ ?_ _ | refine Below.drew ?_ | refine Below.alloc ?_ ?_ _ | refine Below.trans ?_ (Below.mono (by assumption) ?_) | (simp; done) | (simp; omega) | omega)))) (by omega)).mono ?_
    rintro e W11 ⟨g11a, g11b, rfl, hg11a, ho11a, hg11b, ho11b, hb11⟩
    have hF11a : FreshA cIn 1 3 _ _ _ _ _ := .inr ⟨g11a, rfl, hg11a, ho11a⟩
    have hr11a := hF11a.rds
    have hlo11a := hF11a.lo
    have hhi11a := hF11a.hi
    have HF11a := hid hF11a
    clear hF11a
    try simp at hlo11a
    clear ho11a hg11a
    have hF11b : FreshA cPu 3 71 _ _ _ _ _ := .inr ⟨g11b, rfl, hg11b, ho11b⟩
    have hr11b := hF11b.rds
    have hlo11b := hF11b.lo
    have hhi11b := hF11b.hi
    have HF11b := hid hF11b
    clear hF11b
    try simp at hlo11b
    clear ho11b hg11b
    have hc11 := cellOf hb11
    have hf11 := frozOf hb11
    have hz11 := sizeOf hb11
    try simp at hz11
    go_wp2_with (fail)
    refine (c_impl_WithoutPump _ _ _ _ _ _ _ _ _ _ _ (by first | exact hr11a | exact Rds.below hr11a (by (repeat' (first | exact Below.refl _ _ | assumption | refine Below.setCell ?_ ?_ _ | refine Below.drew ?_ | refine Below.alloc ?_ ?_ _ | refine Below.trans ?_ (Below.mono (by assumption) ?_) | (simp; done) | (simp; omega) | omega)))) (by omega) (by first | exact hr11b | exact Rds.below hr11b (by (repeat' (first | exact Below.refl _ _ | assumption | refine Below.setCell ?_ ?_ _ | refine Below.drew ?_ | refine Below.alloc ?_ ?_ _ | refine Below.trans ?_ (Below.mono (by assumption) ?_) | (simp; done) | (simp; omega) | omega)))) (by omega) ).mono ?_
    rintro e W12 ⟨A12a, cp12a, A12b, cp12b, rfl, hF12a, hF12b, hb12⟩
    have hr12a := hF12a.rds
    have hlo12a := hF12a.lo
    have hhi12a := hF12a.hi
    have HF12a := hid hF12a
    clear hF12a
    try simp at hlo12a
    have hr12b := hF12b.rds
    have hlo12b := hF12b.lo
    have hhi12b := hF12b.hi
    have HF12b := hid hF12b
    clear hF12b
    try simp at hlo12b
    have hc12 := cellOf hb12
    have hf12 := frozOf hb12
    have hz12 := sizeOf hb12
    try simp at hz12
    go_wp2_with (fail)
    refine (c_laws_eqPumpTask _ _ _ _ _ _ _ _ _ _ _ _ _ _ _ _ _ _ _ (by first | exact hr12a | exact Rds.below hr12a (by (repeat' (first | exact Below.refl _ _ | assumption | refine Below.setCell ?_ ?_ _ | refine Below.drew ?_ | refine Below.alloc ?_ ?_ _ | refine Below.trans ?_ (Below.mono (by assumption) ?_) | (simp; done) | (simp; omega) | omega)))) (by first | exact hr9b_w0_3 | exact Rds.below hr9b_w0_3 (by (repeat' (first | exact Below.refl _ _ | assumption | refine Below.setCell ?_ ?_ _ | refine Below.drew ?_ | refine Below.alloc ?_ ?_ _ | refine Below.trans ?_ (Below.mono (by assumption) ?_) | (simp; done) | (simp; omega) | omega)))) (by first | exact hr12b | exact Rds.below hr12b (by (repeat' (first | exact Below.refl _ _ | assumption | refine Below.setCell ?_ ?_ _ | refine Below.drew ?_ | refine Below.alloc ?_ ?_ _ | refine Below.trans ?_ (Below.mono (by assumption) ?_) | (simp; done) | (simp; omega) | omega)))) (by first | exact hr9b_w0_4 | exact Rds.below hr9b_w0_4 (by (repeat' (first | exact Below.refl _ _ | assumption | refine Below.setCell ?_ ?_ _ | refine Below.drew ?_ | refine Below.alloc ?_ ?_ _ | refine Below.trans ?_ (Below.mono (by assumption) ?_) | (simp; done) | (simp; omega) | omega)))) (by omega) (by omega) (by omega) (by omega) ⟨rfl, rfl, rfl, rfl, rfl⟩).mono ?_
    rintro e W13 ⟨rfl, hb13⟩
    have hc13 := cellOf hb13
    have hf13 := frozOf hb13
    have hz13 := sizeOf hb13
    try simp at hz13
    go_wp2_with (fail)
    refine (c_laws_heldPumpTask _ _ _ _ _ _ _ _ _ _ _ (by first | exact hr9b_m | exact Rds.below hr9b_m (by (repeat' (first | exact Below.refl _ _ | assumption | refine Below.setCell ?_ ?_ _ | refine Below.drew ?_ | refine Below.alloc ?_ ?_ _ | refine Below.trans ?_ (Below.mono (by assumption) ?_) | (simp; done) | (simp; omega) | omega)))) (by first | exact hr9b | exact Rds.below hr9b (by (repeat' (first | exact Below.refl _ _ | assumption | refine Below.setCell ?_ ?_ _ | refine Below.drew ?_ | refine Below.alloc ?_ ?_ _ | refine Below.trans ?_ (Below.mono (by assumption) ?_) | (simp; done) | (simp; omega) | omega)))) (by omega) (by omega) (by omega)).mono ?_
    rintro e W14 ⟨rfl, hb14⟩
    have hc14 := cellOf hb14
    have hf14 := frozOf hb14
    have hz14 := sizeOf hb14
    try simp at hz14
    go_wp2_with (fail)
    all_goals go_ret
    all_goals exact ⟨rfl, by (repeat' (first | exact Below.refl _ _ | assumption | refine Below.setCell ?_ ?_ _ | refine Below.drew ?_ | refine Below.alloc ?_ ?_ _ | refine Below.trans ?_ (Below.mono (by assumption) ?_) | (simp; done) | (simp; omega) | omega))⟩

end Go.Proofs.Ytpaclngjmdacjaa
