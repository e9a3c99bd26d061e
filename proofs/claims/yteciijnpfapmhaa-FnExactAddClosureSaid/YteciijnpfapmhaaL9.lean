import Derived.Test.YteciijnpfapmhaaAci
import Derived.Test.YteciijnpfapmhaaAcs
import Derived.Test.YteciijnpfapmhaaG10
import Derived.Test.YteciijnpfapmhaaG7
import Derived.Test.YteciijnpfapmhaaG7e
import Derived.Test.YteciijnpfapmhaaG7t
import Derived.Deep.RegionHeld3
namespace Go.Proofs.Yteciijnpfapmhaa
set_option linter.unusedSimpArgs false
set_option linter.unusedVariables false
open Go.RowKit

def FS10_5 (d : Int) (A : Option Addr) (xs : List (Int × Int)) (cap : Nat) (f t dd : Int) (LL : List (Int × Int)) (bb : Bool) (w W0 : World) (iq : Nat) (v : Value) (w1 : World) : Prop := match iq with
  | 0 => v = .agg #[.int .i64 (d), .slice A xs.length cap]
  | 1 => FreshBr W0.heap.size d xs v w1
  | 2 => v = .agg #[.int .i64 (f), .int .i64 (t)]
  | 3 => v = .agg #[.int .i64 ((f)), .int .i64 ((t))]
  | 4 => FreshTb W0.heap.size dd LL LL.length bb v w1
  | 5 => FreshTb W0.heap.size dd LL LL.length bb v w1
  | 6 => FreshAb W0.heap.size dd LL LL.length v w1
  | 7 => v = .bool (bb)
  | 8 => Fresh W0.heap.size (.cells #[.int .i64 (0), .slice none 0 0] 29) v w1
  | _ => True

def FS10_7 (d : Int) (A : Option Addr) (xs : List (Int × Int)) (cap : Nat) (f t dd : Int) (LL : List (Int × Int)) (bb : Bool) (gx : Nat) (WX : World) (w W0 : World) (iq : Nat) (v : Value) (w1 : World) : Prop := match iq with
  | 0 => v = .agg #[.int .i64 (d), .slice (some ⟨gx, 0, none⟩) xs.length xs.length]
  | 1 => v = .agg #[.int .i64 (f), .int .i64 (t)]
  | 2 => v = .agg #[.int .i64 ((f)), .int .i64 ((t))]
  | 3 => FreshTb W0.heap.size dd LL LL.length bb v w1
  | 4 => FreshTb W0.heap.size dd LL LL.length bb v w1
  | 5 => FreshAb W0.heap.size dd LL LL.length v w1
  | 6 => v = .bool (bb)
  | 7 => Fresh W0.heap.size (.cells #[.int .i64 (0), .slice none 0 0] 29) v w1
  | _ => True

def FS10_10 (d : Int) (A : Option Addr) (xs : List (Int × Int)) (cap : Nat) (f t dd : Int) (LL : List (Int × Int)) (bb : Bool) (gx : Nat) (WX : World) (w W0 : World) (iq : Nat) (v : Value) (w1 : World) : Prop := match iq with
  | 0 => v = .agg #[.int .i64 (d), .slice (some ⟨gx, 0, none⟩) xs.length xs.length]
  | 1 => v = .agg #[.int .i64 (d), .slice A xs.length cap]
  | 2 => FreshBr W0.heap.size d xs v w1
  | 3 => v = .bool (true)
  | 4 => v = .bool (false)
  | _ => True

def FS10_24 (d : Int) (A : Option Addr) (xs : List (Int × Int)) (cap : Nat) (f t dd : Int) (LL : List (Int × Int)) (bb : Bool) (w W0 : World) (iq : Nat) (v : Value) (w1 : World) : Prop := match iq with
  | 0 => v = .agg #[.int .i64 (d), .slice A xs.length cap]
  | 1 => FreshBr W0.heap.size d xs v w1
  | 2 => v = .agg #[.int .i64 (f), .int .i64 (t)]
  | 3 => v = .agg #[.int .i64 ((f)), .int .i64 ((t))]
  | 4 => FreshTb W0.heap.size dd LL LL.length bb v w1
  | 5 => FreshTb W0.heap.size dd LL LL.length bb v w1
  | 6 => FreshAb W0.heap.size dd LL LL.length v w1
  | 7 => v = .bool (bb)
  | 8 => Fresh W0.heap.size (.cells #[.int .i64 (0), .slice none 0 0] 29) v w1
  | _ => True

set_option maxRecDepth 100000 in
set_option maxHeartbeats 8000000 in
theorem c_laws_FnExactAddClosure (d : Int) (A : Option Addr) (xs : List (Int × Int)) (cap : Nat) (f t : Int) (w : World) (hr_xs : Rds cIv 2 w A xs) (hn : xs.length ≤ 9223372036854775807) :
    Calls Try.prog 10 #[.agg #[.int .i64 d, .slice A xs.length cap], .agg #[.int .i64 f, .int .i64 t]] w fun e w' => e = .returned (.bool true) ∧ Below w.heap.size w w' := by
  by_cases hsz_xs : xs.length ≤ 1048576
  rotate_left
  · go_enter Try.func10, Try.ntmps10
    go_wp2_with (go_at_call 14; refine (c_laws_szBridge _ _ _ _ _ _ (by omega) (by omega)).mono ?_; rintro e w' ⟨rfl, hb⟩; have hc := cellOf hb; have hf := frozOf hb; have hz := sizeOf hb; try simp at hz)
    all_goals go_ret
    all_goals exact ⟨rfl, by (repeat' (first | exact Below.refl _ _ | assumption | refine Below.setCell ?_ ?_ _ | refine Below.drew ?_ | refine Below.alloc ?_ ?_ _ | refine Below.trans ?_ (Below.mono (by assumption) ?_) | (simp; done) | (simp; omega) | omega))⟩
  obtain ⟨dd, LL, bb, hAV⟩ : ∃ dd LL bb, addV d xs (f, t) = ((dd, LL), bb) := ⟨_, _, _, rfl⟩
  have hLL : LL.length ≤ xs.length + 1 := by have := addV_len d xs (f, t); rw [hAV] at this; exact this
  go_enter Try.func10, Try.ntmps10
  go_wp2_with (fail)
  refine calls_named ?_
  intro V0 hV
  have hw : Below w.heap.size w V0 := by rw [hV]; (repeat' (first | with_reducible exact Below.refl _ _ | with_reducible assumption | with_reducible refine Below.setCell ?_ ?_ _ | with_reducible refine Below.drew ?_ | with_reducible refine Below.alloc ?_ ?_ _ | with_reducible refine Below.trans ?_ (Below.mono (by assumption) ?_) | (dsimp only; omega) | (simp; done) | (simp; omega) | omega))
  have hwz := hw.size
  have d0_0 : V0.cell? ⟨w.heap.size, 0, none⟩ = some (.int .i64 d) := by rw [hV]; first | (simp [go_sem, ↓IntWalk.iteOmega, *]; done) | (simp [go_sem, ↓IntWalk.iteOmega, *]; intros; omega)
  have d0_1 : V0.cell? ⟨w.heap.size, 1, none⟩ = some (.slice A xs.length cap) := by rw [hV]; first | (simp [go_sem, ↓IntWalk.iteOmega, *]; done) | (simp [go_sem, ↓IntWalk.iteOmega, *]; intros; omega)
  have d0_2 : V0.cell? ⟨w.heap.size + 1, 0, none⟩ = some (.int .i64 f) := by rw [hV]; first | (simp [go_sem, ↓IntWalk.iteOmega, *]; done) | (simp [go_sem, ↓IntWalk.iteOmega, *]; intros; omega)
  have d0_3 : V0.cell? ⟨w.heap.size + 1, 1, none⟩ = some (.int .i64 t) := by rw [hV]; first | (simp [go_sem, ↓IntWalk.iteOmega, *]; done) | (simp [go_sem, ↓IntWalk.iteOmega, *]; intros; omega)
  have e0_0 : w.heap.size < V0.heap.size := by rw [hV]; first | (simp; done) | (simp; omega)
  have e0_1 : w.heap.size + 1 < V0.heap.size := by rw [hV]; first | (simp; done) | (simp; omega)
  clear hV
  refine (c_laws_szBridge _ _ _ _ _ _ (by omega) (by omega)).mono ?_
  rintro e W1 ⟨rfl, hb⟩
  have hk : Below V0.heap.size V0 W1 := hb
  have hkz1 := hk.size
  have c1_0 : W1.cell? ⟨w.heap.size, 0, none⟩ = some (.int .i64 d) := (hb.cell (p := ⟨w.heap.size, 0, none⟩) (by show w.heap.size < _; omega)).trans d0_0
  have c1_1 : W1.cell? ⟨w.heap.size, 1, none⟩ = some (.slice A xs.length cap) := (hb.cell (p := ⟨w.heap.size, 1, none⟩) (by show w.heap.size < _; omega)).trans d0_1
  have c1_2 : W1.cell? ⟨w.heap.size + 1, 0, none⟩ = some (.int .i64 f) := (hb.cell (p := ⟨w.heap.size + 1, 0, none⟩) (by show w.heap.size + 1 < _; omega)).trans d0_2
  have c1_3 : W1.cell? ⟨w.heap.size + 1, 1, none⟩ = some (.int .i64 t) := (hb.cell (p := ⟨w.heap.size + 1, 1, none⟩) (by show w.heap.size + 1 < _; omega)).trans d0_3
  have b1_0 : w.heap.size < W1.heap.size := by omega
  have b1_1 : w.heap.size + 1 < W1.heap.size := by omega
  have hw1 : Below w.heap.size w W1 := Below.trans hw (Below.mono hk (by have := hw.size; omega))
  clear hw hk
  have hw := hw1
  clear hw1
  have hwz := hw.size
  clear d0_0 d0_1 d0_2 d0_3
  clear hb
  go_wp2_with (fail)
  refine wp_named ?_
  intro V2 hV
  have hk : Below W1.heap.size W1 V2 := by rw [hV]; (repeat' (first | with_reducible exact Below.refl _ _ | with_reducible assumption | with_reducible refine Below.setCell ?_ ?_ _ | with_reducible refine Below.drew ?_ | with_reducible refine Below.alloc ?_ ?_ _ | with_reducible refine Below.trans ?_ (Below.mono (by assumption) ?_) | (dsimp only; omega) | (simp; done) | (simp; omega) | omega))
  have hkz2 := hk.size
  have c2_0 : V2.cell? ⟨w.heap.size, 0, none⟩ = some (.int .i64 d) := by rw [hV]; first | exact c1_0 | (first | (simp [go_sem, ↓IntWalk.iteOmega, *]; done) | (simp [go_sem, ↓IntWalk.iteOmega, *]; intros; omega))
  have c2_1 : V2.cell? ⟨w.heap.size, 1, none⟩ = some (.slice A xs.length cap) := by rw [hV]; first | exact c1_1 | (first | (simp [go_sem, ↓IntWalk.iteOmega, *]; done) | (simp [go_sem, ↓IntWalk.iteOmega, *]; intros; omega))
  have c2_2 : V2.cell? ⟨w.heap.size + 1, 0, none⟩ = some (.int .i64 f) := by rw [hV]; first | exact c1_2 | (first | (simp [go_sem, ↓IntWalk.iteOmega, *]; done) | (simp [go_sem, ↓IntWalk.iteOmega, *]; intros; omega))
  have c2_3 : V2.cell? ⟨w.heap.size + 1, 1, none⟩ = some (.int .i64 t) := by rw [hV]; first | exact c1_3 | (first | (simp [go_sem, ↓IntWalk.iteOmega, *]; done) | (simp [go_sem, ↓IntWalk.iteOmega, *]; intros; omega))
  have b2_0 : w.heap.size < V2.heap.size := by omega
  have b2_1 : w.heap.size + 1 < V2.heap.size := by omega
  have hw2 : Below w.heap.size w V2 := Below.trans hw (Below.mono hk (by have := hw.size; omega))
  clear hw hk
  have hw := hw2
  clear hw2
  have hwz := hw.size
  clear c1_0 c1_1 c1_2 c1_3
  clear hV
  have hrP := Rds.below hr_xs hw
  refine wp_region_w (n := 9) [7] [8] (FS10_5 d A xs cap f t dd LL bb w) rfl (by kernel_rfl) (fun _ _ d _ _ h => by cases d <;> exact h) ?_ ?_ ?_ ?_ ?_ ?_
  · intro iq
    match iq with
    | 0 | 2 | 3 | 7 => exact Stable.const _
    | 1 => exact FreshBr.stable
    | 4 => exact FreshTb.stable
    | 5 => exact FreshTb.stable
    | 6 => exact FreshAb.stable
    | 8 => exact Stable.fresh _ _
    | n + 9 => exact Stable.const _
  · intro iq hi v w1 hF
    have hcase : iq = 8 := by simpa using hi
    subst hcase
    exact Fresh.ltv hF
  · intro iq hi
    have hcase : iq = 7 := by simpa using hi
    subst hcase
    rfl
  · intro iq o hi hl ho vals w1 hb1 hf
    match iq, hi with
    | 7, _ =>
      injection ho with ho
      subst ho
      clear hl
      simp only [fillA, List.take, List.drop, put_none, Act.put, List.setIfInBounds_toArray, List.set_cons_zero, List.set_cons_succ, Nat.reduceAdd]
      have f5 := hf 5 (by decide) (by kernel_rfl)
      generalize vals 5 = v5 at *
      obtain ⟨f5aA, f5ac, rfl, f5aF⟩ := f5
      exact ⟨_, rfl, .inl ⟨rfl, fun _ => rfl⟩⟩
  · intro iq o hi hl ho vals w1 hb1 hf
    match iq, hi with
    | 0, _ =>
      injection ho with ho
      subst ho
      clear hl
      simp only [fillA, List.take, List.drop, put_none, Act.put, List.setIfInBounds_toArray, List.set_cons_zero, List.set_cons_succ, Nat.reduceAdd]
      clear hf
      have hc1 := cellOf hb1
      have hf1 := frozOf hb1
      have hz1 := sizeOf hb1
      try simp at hz1
      go_wp2_with (fail)
      exact RQ.mk rfl ⟨(by first | rfl | (simp [FS10_5]; done) | (simp [FS10_5, *]; done) | (simp [FS10_5, gotV]; done) | (simp [FS10_5, gotV]; omega)), fun h => absurd h (by decide)⟩ (Below.refl _ _)
    | 1, _ =>
      injection ho with ho
      subst ho
      clear hl
      simp only [fillA, List.take, List.drop, put_none, Act.put, List.setIfInBounds_toArray, List.set_cons_zero, List.set_cons_succ, Nat.reduceAdd]
      have f0 := hf 0 (by decide) (by kernel_rfl)
      generalize vals 0 = v0 at *
      subst f0
      clear hf
      have hc1 := cellOf hb1
      have hf1 := frozOf hb1
      have hz1 := sizeOf hb1
      try simp at hz1
      go_wp2_with (first | (go_at_call 16; refine (c_laws_toBridge _ _ _ _ _ (by first | assumption | exact Rds.below (by assumption) (by (repeat' (first | exact Below.refl _ _ | assumption | refine Below.setCell ?_ ?_ _ | refine Below.drew ?_ | refine Below.alloc ?_ ?_ _ | refine Below.trans ?_ (Below.mono (by assumption) ?_) | (simp; done) | (simp; omega) | omega)))) (by omega)).mono ?_; rintro e w' ⟨g, rfl, hg, ho, hb⟩; have hr := ho.rds; have hlo := ho.lt; have HO := hid ho; clear ho; have hc := cellOf hb; have hf := frozOf hb; have hz := sizeOf hb; try simp at hz))
      exact RQ.mk rfl ⟨⟨_, rfl, (by first | omega | (simp at *; omega)), HO.out⟩, fun h => absurd h (by decide)⟩ (by (repeat' (first | exact Below.refl _ _ | assumption | refine Below.setCell ?_ ?_ _ | refine Below.drew ?_ | refine Below.alloc ?_ ?_ _ | refine Below.trans ?_ (Below.mono (by assumption) ?_) | (simp; done) | (simp; omega) | omega)))
    | 2, _ =>
      injection ho with ho
      subst ho
      clear hl
      simp only [fillA, List.take, List.drop, put_none, Act.put, List.setIfInBounds_toArray, List.set_cons_zero, List.set_cons_succ, Nat.reduceAdd]
      clear hf
      have hc1 := cellOf hb1
      have hf1 := frozOf hb1
      have hz1 := sizeOf hb1
      try simp at hz1
      go_wp2_with (fail)
      exact RQ.mk rfl ⟨(by first | rfl | (simp [FS10_5]; done) | (simp [FS10_5, *]; done) | (simp [FS10_5, gotV]; done) | (simp [FS10_5, gotV]; omega)), fun h => absurd h (by decide)⟩ (Below.refl _ _)
    | 3, _ =>
      injection ho with ho
      subst ho
      clear hl
      simp only [fillA, List.take, List.drop, put_none, Act.put, List.setIfInBounds_toArray, List.set_cons_zero, List.set_cons_succ, Nat.reduceAdd]
      have f2 := hf 2 (by decide) (by kernel_rfl)
      generalize vals 2 = v2 at *
      subst f2
      have f1 := hf 1 (by decide) (by kernel_rfl)
      generalize vals 1 = v1 at *
      obtain ⟨gr11, rfl, hgr11a, hgr11b⟩ := f1
      try simp at hgr11a
      have hgr11r := hgr11b.rds
      have hgr11l := hgr11b.lt
      clear hgr11b
      clear hf
      have hc1 := cellOf hb1
      have hf1 := frozOf hb1
      have hz1 := sizeOf hb1
      try simp at hz1
      go_wp2_with (first | (go_at_call 34; refine (c_laws_toInterval _ _ _ ).mono ?_; rintro e w' ⟨rfl, hb⟩; have hc := cellOf hb; have hf := frozOf hb; have hz := sizeOf hb; try simp at hz))
      exact RQ.mk rfl ⟨(by first | rfl | (simp [FS10_5]; done) | (simp [FS10_5, *]; done) | (simp [FS10_5, gotV]; done) | (simp [FS10_5, gotV]; omega)), fun h => absurd h (by decide)⟩ (by (repeat' (first | exact Below.refl _ _ | assumption | refine Below.setCell ?_ ?_ _ | refine Below.drew ?_ | refine Below.alloc ?_ ?_ _ | refine Below.trans ?_ (Below.mono (by assumption) ?_) | (simp; done) | (simp; omega) | omega)))
    | 4, _ =>
      injection ho with ho
      subst ho
      clear hl
      simp only [fillA, List.take, List.drop, put_none, Act.put, List.setIfInBounds_toArray, List.set_cons_zero, List.set_cons_succ, Nat.reduceAdd]
      have f1 := hf 1 (by decide) (by kernel_rfl)
      generalize vals 1 = v1 at *
      obtain ⟨gr11, rfl, hgr11a, hgr11b⟩ := f1
      try simp at hgr11a
      have hgr11r := hgr11b.rds
      have hgr11l := hgr11b.lt
      clear hgr11b
      have f3 := hf 3 (by decide) (by kernel_rfl)
      generalize vals 3 = v3 at *
      subst f3
      clear hf
      have hc1 := cellOf hb1
      have hf1 := frozOf hb1
      have hz1 := sizeOf hb1
      try simp at hz1
      go_wp2_with (first | (go_at_call 33; refine (c_spec_AddClosure _ _ _ _ _ _ _ (by first | assumption | exact Rds.below (by assumption) (by (repeat' (first | exact Below.refl _ _ | assumption | refine Below.setCell ?_ ?_ _ | refine Below.drew ?_ | refine Below.alloc ?_ ?_ _ | refine Below.trans ?_ (Below.mono (by assumption) ?_) | (simp; done) | (simp; omega) | omega)))) (by omega) (by first | omega | exact Nat.le_refl _)).mono ?_; simp only [hAV]; rintro e w' ⟨A9, c9, rfl, hF9, hb⟩; have hc := cellOf hb; have hf := frozOf hb; have hz := sizeOf hb; try simp at hz))
      exact RQ.mk rfl ⟨⟨_, _, rfl, hF9.mono (by first | omega | (simp at *; omega))⟩, fun h => absurd h (by decide)⟩ (by (repeat' (first | exact Below.refl _ _ | assumption | refine Below.setCell ?_ ?_ _ | refine Below.drew ?_ | refine Below.alloc ?_ ?_ _ | refine Below.trans ?_ (Below.mono (by assumption) ?_) | (simp; done) | (simp; omega) | omega)))
    | 5, _ =>
      injection ho with ho
      subst ho
      clear hl
      simp only [fillA, List.take, List.drop, put_none, Act.put, List.setIfInBounds_toArray, List.set_cons_zero, List.set_cons_succ, Nat.reduceAdd]
      have f4 := hf 4 (by decide) (by kernel_rfl)
      generalize vals 4 = v4 at *
      obtain ⟨f4aA, f4ac, rfl, f4aF⟩ := f4
      clear hf
      go_wp2_with (fail)
      exact RQ.mk rfl ⟨⟨_, _, rfl, f4aF⟩, fun h => absurd h (by decide)⟩ (by (repeat' (first | exact Below.refl _ _ | assumption | refine Below.setCell ?_ ?_ _ | refine Below.drew ?_ | refine Below.alloc ?_ ?_ _ | refine Below.trans ?_ (Below.mono (by assumption) ?_) | (simp; done) | (simp; omega) | omega)))
    | 6, _ =>
      injection ho with ho
      subst ho
      clear hl
      simp only [fillA, List.take, List.drop, put_none, Act.put, List.setIfInBounds_toArray, List.set_cons_zero, List.set_cons_succ, Nat.reduceAdd]
      have f5 := hf 5 (by decide) (by kernel_rfl)
      generalize vals 5 = v5 at *
      obtain ⟨f5aA, f5ac, rfl, f5aF⟩ := f5
      clear hf
      go_wp2_with (fail)
      exact RQ.mk rfl ⟨⟨_, _, rfl, f5aF⟩, fun h => absurd h (by decide)⟩ (by (repeat' (first | exact Below.refl _ _ | assumption | refine Below.setCell ?_ ?_ _ | refine Below.drew ?_ | refine Below.alloc ?_ ?_ _ | refine Below.trans ?_ (Below.mono (by assumption) ?_) | (simp; done) | (simp; omega) | omega)))
    | 7, _ => exact absurd hl (by decide)
    | 8, _ =>
      injection ho with ho
      subst ho
      clear hl
      simp only [fillA, List.take, List.drop, put_none, Act.put, List.setIfInBounds_toArray, List.set_cons_zero, List.set_cons_succ, Nat.reduceAdd]
      clear hf
      have hc1 := cellOf hb1
      have hf1 := frozOf hb1
      have hz1 := sizeOf hb1
      try simp at hz1
      go_wp2_with (fail)
      exact RQ.mk rfl ⟨⟨_, rfl, (by first | omega | (simp; omega)), heap_alloc_new _ _⟩, fun _ => Nat.le_refl _⟩ (by (repeat' (first | exact Below.refl _ _ | assumption | refine Below.setCell ?_ ?_ _ | refine Below.drew ?_ | refine Below.alloc ?_ ?_ _ | refine Below.trans ?_ (Below.mono (by assumption) ?_) | (simp; done) | (simp; omega) | omega)))
  · intro vals Za hb1 hf hd
    simp only [fillA, List.take, List.drop, put_none, Act.put, List.setIfInBounds_toArray, List.set_cons_zero, List.set_cons_succ, Nat.reduceAdd]
    clear hd
    have f0 := hf 0 (by decide)
    generalize vals 0 = v0 at *
    subst f0
    have f1 := hf 1 (by decide)
    generalize vals 1 = v1 at *
    obtain ⟨gr11, rfl, hgr11a, hgr11b⟩ := f1
    try simp at hgr11a
    have hgr11r := hgr11b.rds
    have hgr11l := hgr11b.lt
    have Hgr11 := hid hgr11b
    clear hgr11b
    have f2 := hf 2 (by decide)
    generalize vals 2 = v2 at *
    subst f2
    have f3 := hf 3 (by decide)
    generalize vals 3 = v3 at *
    subst f3
    have f4 := hf 4 (by decide)
    generalize vals 4 = v4 at *
    obtain ⟨f4aA, f4ac, rfl, f4aF⟩ := f4
    have f5 := hf 5 (by decide)
    generalize vals 5 = v5 at *
    obtain ⟨f5aA, f5ac, rfl, f5aF⟩ := f5
    have f6 := hf 6 (by decide)
    generalize vals 6 = v6 at *
    obtain ⟨f6aA, f6ac, rfl, f6aF⟩ := f6
    have f7 := hf 7 (by decide)
    generalize vals 7 = v7 at *
    subst f7
    have f8 := hf 8 (by decide)
    generalize vals 8 = v8 at *
    obtain ⟨g13, rfl, hg13a, hg13b⟩ := f8
    try simp at hg13a
    clear hf
    have hc1 := cellOf hb1
    have hf1 := frozOf hb1
    have hz1 := sizeOf hb1
    try simp at hz1
    have hg13c := Fresh.lt hg13b
    have hg13d := Fresh.cell hg13b
    have hg13e := Fresh.froz hg13b
    have hg13f := Fresh.far hg13b
    have hg13g := Fresh.farz hg13b
    have HBg13 := hid hg13b
    clear hg13b
    have hne := (f6aF).neOb HBg13.out
    have HNEa := hid hne
    have HFX := hid f6aF
    clear hne
    go_wp2_with (fail)
    refine calls_named ?_
    intro V3 hV
    have hn0 : V3.cell? ⟨g13, 0, none⟩ = some (.int .i64 dd) := by rw [hV]; first | (simp [go_sem, ↓IntWalk.iteOmega, *]; done) | (simp [go_sem, ↓IntWalk.iteOmega, *]; intros; omega)
    have hn1 : V3.cell? ⟨g13, 1, none⟩ = some (.slice f6aA LL.length f6ac) := by rw [hV]; first | (simp [go_sem, ↓IntWalk.iteOmega, *]; done) | (simp [go_sem, ↓IntWalk.iteOmega, *]; intros; omega)
    have hnl : g13 < V3.heap.size := by rw [hV]; simpa [World.setCell] using hg13c
    have hnF : FreshA cIv 2 50 V2.heap.size V3 f6aA f6ac LL := by rw [hV]; exact (HFX.out.set_neb (p := ⟨g13, 0, none⟩) HNEa.out _).set_neb (p := ⟨g13, 1, none⟩) HNEa.out _
    have hk : Below V2.heap.size V2 V3 := by rw [hV]; exact Below.setCell (Below.setCell hb1 (by show V2.heap.size ≤ g13; omega) _) (by show V2.heap.size ≤ g13; omega) _
    have hkz3 := hk.size
    have c3_0 : V3.cell? ⟨w.heap.size, 0, none⟩ = some (.int .i64 d) := by rw [hV]; first | (first | (simp [go_sem, ↓IntWalk.iteOmega, *]; done) | (simp [go_sem, ↓IntWalk.iteOmega, *]; intros; omega))
    have c3_1 : V3.cell? ⟨w.heap.size, 1, none⟩ = some (.slice A xs.length cap) := by rw [hV]; first | (first | (simp [go_sem, ↓IntWalk.iteOmega, *]; done) | (simp [go_sem, ↓IntWalk.iteOmega, *]; intros; omega))
    have c3_2 : V3.cell? ⟨w.heap.size + 1, 0, none⟩ = some (.int .i64 f) := by rw [hV]; first | (first | (simp [go_sem, ↓IntWalk.iteOmega, *]; done) | (simp [go_sem, ↓IntWalk.iteOmega, *]; intros; omega))
    have c3_3 : V3.cell? ⟨w.heap.size + 1, 1, none⟩ = some (.int .i64 t) := by rw [hV]; first | (first | (simp [go_sem, ↓IntWalk.iteOmega, *]; done) | (simp [go_sem, ↓IntWalk.iteOmega, *]; intros; omega))
    have b3_0 : w.heap.size < V3.heap.size := by omega
    have b3_1 : w.heap.size + 1 < V3.heap.size := by omega
    have hw3 : Below w.heap.size w V3 := Below.trans hw (Below.mono hk (by have := hw.size; omega))
    clear hw hk
    have hw := hw3
    clear hw3
    have hwz := hw.size
    clear c2_0 c2_1 c2_2 c2_3
    clear hV hb1 hrP
    have d3_4 : V3.cell? ⟨g13, 0, none⟩ = some (.int .i64 dd) := hn0
    have d3_5 : V3.cell? ⟨g13, 1, none⟩ = some (.slice f6aA LL.length f6ac) := hn1
    have e3_2 : g13 < V3.heap.size := hnl
    have S3_0 : Hid (FreshA cIv 2 50 V2.heap.size V3 f6aA f6ac LL) := hid (hnF)
    have loS3_0 := S3_0.out.lo
    have hiS3_0 := S3_0.out.hi
    clear hn0 hn1 hnl hnF HFX
    refine (c_laws_toBridge d _ xs _ _ (Rds.below hr_xs hw) (by omega)).mono ?_
    rintro e W4 ⟨gx, rfl, hgx, hox, hb⟩
    have hk : Below V3.heap.size V3 W4 := hb
    have hkz4 := hk.size
    have c4_0 : W4.cell? ⟨w.heap.size, 0, none⟩ = some (.int .i64 d) := (hb.cell (p := ⟨w.heap.size, 0, none⟩) (by show w.heap.size < _; omega)).trans c3_0
    have c4_1 : W4.cell? ⟨w.heap.size, 1, none⟩ = some (.slice A xs.length cap) := (hb.cell (p := ⟨w.heap.size, 1, none⟩) (by show w.heap.size < _; omega)).trans c3_1
    have c4_2 : W4.cell? ⟨w.heap.size + 1, 0, none⟩ = some (.int .i64 f) := (hb.cell (p := ⟨w.heap.size + 1, 0, none⟩) (by show w.heap.size + 1 < _; omega)).trans c3_2
    have c4_3 : W4.cell? ⟨w.heap.size + 1, 1, none⟩ = some (.int .i64 t) := (hb.cell (p := ⟨w.heap.size + 1, 1, none⟩) (by show w.heap.size + 1 < _; omega)).trans c3_3
    have c4_4 : W4.cell? ⟨g13, 0, none⟩ = some (.int .i64 dd) := (hb.cell (p := ⟨g13, 0, none⟩) (by show g13 < _; omega)).trans d3_4
    have c4_5 : W4.cell? ⟨g13, 1, none⟩ = some (.slice f6aA LL.length f6ac) := (hb.cell (p := ⟨g13, 1, none⟩) (by show g13 < _; omega)).trans d3_5
    have b4_0 : w.heap.size < W4.heap.size := by omega
    have b4_1 : w.heap.size + 1 < W4.heap.size := by omega
    have b4_2 : g13 < W4.heap.size := by omega
    have R4_0 := hid (FreshA.below (cf := cIv) (sz := 2) (T := 50) (B := V2.heap.size) S3_0.out hk)
    have hw4 : Below w.heap.size w W4 := Below.trans hw (Below.mono hk (by have := hw.size; omega))
    clear hw hk
    have hw := hw4
    clear hw4
    have hwz := hw.size
    clear c3_0 c3_1 c3_2 c3_3 d3_4 d3_5 S3_0
    clear hb
    have hFx : FreshA cIv 2 50 V3.heap.size W4 (some ⟨gx, 0, none⟩) xs.length xs := .inr ⟨gx, rfl, hgx, hox⟩
    clear hox
    have S4_1 : Hid (FreshA cIv 2 50 V3.heap.size W4 (some ⟨gx, 0, none⟩) xs.length xs) := hid (hFx)
    have loS4_1 := S4_1.out.lo
    have hiS4_1 := S4_1.out.hi
    clear hFx
    go_wp2_with (fail)
    refine wp_named ?_
    intro V5 hV
    have hx0 : V5.cell? ⟨W4.heap.size, 0, none⟩ = some (.int .i64 d) := by rw [hV]; first | (simp [go_sem, ↓IntWalk.iteOmega, *]; done) | (simp [go_sem, ↓IntWalk.iteOmega, *]; intros; omega)
    have hx1 : V5.cell? ⟨W4.heap.size, 1, none⟩ = some (.slice (some ⟨gx, 0, none⟩) xs.length xs.length) := by rw [hV]; first | (simp [go_sem, ↓IntWalk.iteOmega, *]; done) | (simp [go_sem, ↓IntWalk.iteOmega, *]; intros; omega)
    have hxl : W4.heap.size < V5.heap.size := by rw [hV]; first | (simp; done) | (simp; omega)
    have hk : Below W4.heap.size W4 V5 := by rw [hV]; (repeat' (first | with_reducible exact Below.refl _ _ | with_reducible assumption | with_reducible refine Below.setCell ?_ ?_ _ | with_reducible refine Below.drew ?_ | with_reducible refine Below.alloc ?_ ?_ _ | with_reducible refine Below.trans ?_ (Below.mono (by assumption) ?_) | (dsimp only; omega) | (simp; done) | (simp; omega) | omega))
    have hkz5 := hk.size
    have c5_0 : V5.cell? ⟨w.heap.size, 0, none⟩ = some (.int .i64 d) := by rw [hV]; first | exact c4_0 | (first | (simp [go_sem, ↓IntWalk.iteOmega, *]; done) | (simp [go_sem, ↓IntWalk.iteOmega, *]; intros; omega))
    have c5_1 : V5.cell? ⟨w.heap.size, 1, none⟩ = some (.slice A xs.length cap) := by rw [hV]; first | exact c4_1 | (first | (simp [go_sem, ↓IntWalk.iteOmega, *]; done) | (simp [go_sem, ↓IntWalk.iteOmega, *]; intros; omega))
    have c5_2 : V5.cell? ⟨w.heap.size + 1, 0, none⟩ = some (.int .i64 f) := by rw [hV]; first | exact c4_2 | (first | (simp [go_sem, ↓IntWalk.iteOmega, *]; done) | (simp [go_sem, ↓IntWalk.iteOmega, *]; intros; omega))
    have c5_3 : V5.cell? ⟨w.heap.size + 1, 1, none⟩ = some (.int .i64 t) := by rw [hV]; first | exact c4_3 | (first | (simp [go_sem, ↓IntWalk.iteOmega, *]; done) | (simp [go_sem, ↓IntWalk.iteOmega, *]; intros; omega))
    have c5_4 : V5.cell? ⟨g13, 0, none⟩ = some (.int .i64 dd) := by rw [hV]; first | exact c4_4 | (first | (simp [go_sem, ↓IntWalk.iteOmega, *]; done) | (simp [go_sem, ↓IntWalk.iteOmega, *]; intros; omega))
    have c5_5 : V5.cell? ⟨g13, 1, none⟩ = some (.slice f6aA LL.length f6ac) := by rw [hV]; first | exact c4_5 | (first | (simp [go_sem, ↓IntWalk.iteOmega, *]; done) | (simp [go_sem, ↓IntWalk.iteOmega, *]; intros; omega))
    have b5_0 : w.heap.size < V5.heap.size := by omega
    have b5_1 : w.heap.size + 1 < V5.heap.size := by omega
    have b5_2 : g13 < V5.heap.size := by omega
    have R5_0 := hid (FreshA.below (cf := cIv) (sz := 2) (T := 50) (B := V2.heap.size) R4_0.out hk)
    have R5_1 := hid (FreshA.below (cf := cIv) (sz := 2) (T := 50) (B := V3.heap.size) S4_1.out hk)
    have hw5 : Below w.heap.size w V5 := Below.trans hw (Below.mono hk (by have := hw.size; omega))
    clear hw hk
    have hw := hw5
    clear hw5
    have hwz := hw.size
    clear c4_0 c4_1 c4_2 c4_3 c4_4 c4_5 R4_0 S4_1
    clear hV
    have d5_6 : V5.cell? ⟨W4.heap.size, 0, none⟩ = some (.int .i64 d) := hx0
    have d5_7 : V5.cell? ⟨W4.heap.size, 1, none⟩ = some (.slice (some ⟨gx, 0, none⟩) xs.length xs.length) := hx1
    have e5_3 : W4.heap.size < V5.heap.size := hxl
    clear hx0 hx1 hxl
    have hrX := R5_1.out.rds
    have hrP := Rds.below hr_xs hw
    refine wp_region_w (n := 8) [6] [7] (FS10_7 d A xs cap f t dd LL bb gx W4 w) rfl (by kernel_rfl) (fun _ _ d _ _ h => by cases d <;> exact h) ?_ ?_ ?_ ?_ ?_ ?_
    · intro iq
      match iq with
      | 0 | 1 | 2 | 6 => exact Stable.const _
      | 3 => exact FreshTb.stable
      | 4 => exact FreshTb.stable
      | 5 => exact FreshAb.stable
      | 7 => exact Stable.fresh _ _
      | n + 8 => exact Stable.const _
    · intro iq hi v w1 hF
      have hcase : iq = 7 := by simpa using hi
      subst hcase
      exact Fresh.ltv hF
    · intro iq hi
      have hcase : iq = 6 := by simpa using hi
      subst hcase
      rfl
    · intro iq o hi hl ho vals w1 hb1 hf
      match iq, hi with
      | 6, _ =>
        injection ho with ho
        subst ho
        clear hl
        simp only [fillA, List.take, List.drop, put_none, Act.put, List.setIfInBounds_toArray, List.set_cons_zero, List.set_cons_succ, Nat.reduceAdd]
        have f4 := hf 4 (by decide) (by kernel_rfl)
        generalize vals 4 = v4 at *
        obtain ⟨f4bA, f4bc, rfl, f4bF⟩ := f4
        exact ⟨_, rfl, .inl ⟨rfl, fun _ => rfl⟩⟩
    · intro iq o hi hl ho vals w1 hb1 hf
      match iq, hi with
      | 0, _ =>
        injection ho with ho
        subst ho
        clear hl
        simp only [fillA, List.take, List.drop, put_none, Act.put, List.setIfInBounds_toArray, List.set_cons_zero, List.set_cons_succ, Nat.reduceAdd]
        clear hf
        have hc1 := cellOf hb1
        have hf1 := frozOf hb1
        have hz1 := sizeOf hb1
        try simp at hz1
        go_wp2_with (fail)
        exact RQ.mk rfl ⟨(by first | rfl | (simp [FS10_7]; done) | (simp [FS10_7, *]; done) | (simp [FS10_7, gotV]; done) | (simp [FS10_7, gotV]; omega)), fun h => absurd h (by decide)⟩ (Below.refl _ _)
      | 1, _ =>
        injection ho with ho
        subst ho
        clear hl
        simp only [fillA, List.take, List.drop, put_none, Act.put, List.setIfInBounds_toArray, List.set_cons_zero, List.set_cons_succ, Nat.reduceAdd]
        clear hf
        have hc1 := cellOf hb1
        have hf1 := frozOf hb1
        have hz1 := sizeOf hb1
        try simp at hz1
        go_wp2_with (fail)
        exact RQ.mk rfl ⟨(by first | rfl | (simp [FS10_7]; done) | (simp [FS10_7, *]; done) | (simp [FS10_7, gotV]; done) | (simp [FS10_7, gotV]; omega)), fun h => absurd h (by decide)⟩ (Below.refl _ _)
      | 2, _ =>
        injection ho with ho
        subst ho
        clear hl
        simp only [fillA, List.take, List.drop, put_none, Act.put, List.setIfInBounds_toArray, List.set_cons_zero, List.set_cons_succ, Nat.reduceAdd]
        have f1 := hf 1 (by decide) (by kernel_rfl)
        generalize vals 1 = v1 at *
        subst f1
        clear hf
        have hc1 := cellOf hb1
        have hf1 := frozOf hb1
        have hz1 := sizeOf hb1
        try simp at hz1
        go_wp2_with (first | (go_at_call 34; refine (c_laws_toInterval _ _ _ ).mono ?_; rintro e w' ⟨rfl, hb⟩; have hc := cellOf hb; have hf := frozOf hb; have hz := sizeOf hb; try simp at hz))
        exact RQ.mk rfl ⟨(by first | rfl | (simp [FS10_7]; done) | (simp [FS10_7, *]; done) | (simp [FS10_7, gotV]; done) | (simp [FS10_7, gotV]; omega)), fun h => absurd h (by decide)⟩ (by (repeat' (first | exact Below.refl _ _ | assumption | refine Below.setCell ?_ ?_ _ | refine Below.drew ?_ | refine Below.alloc ?_ ?_ _ | refine Below.trans ?_ (Below.mono (by assumption) ?_) | (simp; done) | (simp; omega) | omega)))
      | 3, _ =>
        injection ho with ho
        subst ho
        clear hl
        simp only [fillA, List.take, List.drop, put_none, Act.put, List.setIfInBounds_toArray, List.set_cons_zero, List.set_cons_succ, Nat.reduceAdd]
        have f0 := hf 0 (by decide) (by kernel_rfl)
        generalize vals 0 = v0 at *
        subst f0
        have f2 := hf 2 (by decide) (by kernel_rfl)
        generalize vals 2 = v2 at *
        subst f2
        clear hf
        have hc1 := cellOf hb1
        have hf1 := frozOf hb1
        have hz1 := sizeOf hb1
        try simp at hz1
        go_wp2_with (first | (go_at_call 35; refine (c_impl_AddClosure _ _ _ _ _ _ _ (by first | assumption | exact Rds.below (by assumption) (by (repeat' (first | exact Below.refl _ _ | assumption | refine Below.setCell ?_ ?_ _ | refine Below.drew ?_ | refine Below.alloc ?_ ?_ _ | refine Below.trans ?_ (Below.mono (by assumption) ?_) | (simp; done) | (simp; omega) | omega)))) (by omega)).mono ?_; simp only [hAV]; rintro e w' ⟨A9, c9, rfl, hF9, hb⟩; have hc := cellOf hb; have hf := frozOf hb; have hz := sizeOf hb; try simp at hz))
        exact RQ.mk rfl ⟨⟨_, _, rfl, hF9.mono (by first | omega | (simp at *; omega))⟩, fun h => absurd h (by decide)⟩ (by (repeat' (first | exact Below.refl _ _ | assumption | refine Below.setCell ?_ ?_ _ | refine Below.drew ?_ | refine Below.alloc ?_ ?_ _ | refine Below.trans ?_ (Below.mono (by assumption) ?_) | (simp; done) | (simp; omega) | omega)))
      | 4, _ =>
        injection ho with ho
        subst ho
        clear hl
        simp only [fillA, List.take, List.drop, put_none, Act.put, List.setIfInBounds_toArray, List.set_cons_zero, List.set_cons_succ, Nat.reduceAdd]
        have f3 := hf 3 (by decide) (by kernel_rfl)
        generalize vals 3 = v3 at *
        obtain ⟨f3bA, f3bc, rfl, f3bF⟩ := f3
        clear hf
        go_wp2_with (fail)
        exact RQ.mk rfl ⟨⟨_, _, rfl, f3bF⟩, fun h => absurd h (by decide)⟩ (by (repeat' (first | exact Below.refl _ _ | assumption | refine Below.setCell ?_ ?_ _ | refine Below.drew ?_ | refine Below.alloc ?_ ?_ _ | refine Below.trans ?_ (Below.mono (by assumption) ?_) | (simp; done) | (simp; omega) | omega)))
      | 5, _ =>
        injection ho with ho
        subst ho
        clear hl
        simp only [fillA, List.take, List.drop, put_none, Act.put, List.setIfInBounds_toArray, List.set_cons_zero, List.set_cons_succ, Nat.reduceAdd]
        have f4 := hf 4 (by decide) (by kernel_rfl)
        generalize vals 4 = v4 at *
        obtain ⟨f4bA, f4bc, rfl, f4bF⟩ := f4
        clear hf
        go_wp2_with (fail)
        exact RQ.mk rfl ⟨⟨_, _, rfl, f4bF⟩, fun h => absurd h (by decide)⟩ (by (repeat' (first | exact Below.refl _ _ | assumption | refine Below.setCell ?_ ?_ _ | refine Below.drew ?_ | refine Below.alloc ?_ ?_ _ | refine Below.trans ?_ (Below.mono (by assumption) ?_) | (simp; done) | (simp; omega) | omega)))
      | 6, _ => exact absurd hl (by decide)
      | 7, _ =>
        injection ho with ho
        subst ho
        clear hl
        simp only [fillA, List.take, List.drop, put_none, Act.put, List.setIfInBounds_toArray, List.set_cons_zero, List.set_cons_succ, Nat.reduceAdd]
        clear hf
        have hc1 := cellOf hb1
        have hf1 := frozOf hb1
        have hz1 := sizeOf hb1
        try simp at hz1
        go_wp2_with (fail)
        exact RQ.mk rfl ⟨⟨_, rfl, (by first | omega | (simp; omega)), heap_alloc_new _ _⟩, fun _ => Nat.le_refl _⟩ (by (repeat' (first | exact Below.refl _ _ | assumption | refine Below.setCell ?_ ?_ _ | refine Below.drew ?_ | refine Below.alloc ?_ ?_ _ | refine Below.trans ?_ (Below.mono (by assumption) ?_) | (simp; done) | (simp; omega) | omega)))
    · intro vals Zb hb1 hf hd
      simp only [fillA, List.take, List.drop, put_none, Act.put, List.setIfInBounds_toArray, List.set_cons_zero, List.set_cons_succ, Nat.reduceAdd]
      clear hd
      have f0 := hf 0 (by decide)
      generalize vals 0 = v0 at *
      subst f0
      have f1 := hf 1 (by decide)
      generalize vals 1 = v1 at *
      subst f1
      have f2 := hf 2 (by decide)
      generalize vals 2 = v2 at *
      subst f2
      have f3 := hf 3 (by decide)
      generalize vals 3 = v3 at *
      obtain ⟨f3bA, f3bc, rfl, f3bF⟩ := f3
      have f4 := hf 4 (by decide)
      generalize vals 4 = v4 at *
      obtain ⟨f4bA, f4bc, rfl, f4bF⟩ := f4
      have f5 := hf 5 (by decide)
      generalize vals 5 = v5 at *
      obtain ⟨f5bA, f5bc, rfl, f5bF⟩ := f5
      have f6 := hf 6 (by decide)
      generalize vals 6 = v6 at *
      subst f6
      have f7 := hf 7 (by decide)
      generalize vals 7 = v7 at *
      obtain ⟨g22, rfl, hg22a, hg22b⟩ := f7
      try simp at hg22a
      clear hf
      have hc1 := cellOf hb1
      have hf1 := frozOf hb1
      have hz1 := sizeOf hb1
      try simp at hz1
      have hg22c := Fresh.lt hg22b
      have hg22d := Fresh.cell hg22b
      have hg22e := Fresh.froz hg22b
      have hg22f := Fresh.far hg22b
      have hg22g := Fresh.farz hg22b
      have HBg22 := hid hg22b
      clear hg22b
      have hne := (f5bF).neOb HBg22.out
      have HNEb := hid hne
      have HFX := hid f5bF
      clear hne
      go_wp2_with (fail)
      refine calls_named ?_
      intro V6 hV
      have hn0 : V6.cell? ⟨g22, 0, none⟩ = some (.int .i64 dd) := by rw [hV]; first | (simp [go_sem, ↓IntWalk.iteOmega, *]; done) | (simp [go_sem, ↓IntWalk.iteOmega, *]; intros; omega)
      have hn1 : V6.cell? ⟨g22, 1, none⟩ = some (.slice f5bA LL.length f5bc) := by rw [hV]; first | (simp [go_sem, ↓IntWalk.iteOmega, *]; done) | (simp [go_sem, ↓IntWalk.iteOmega, *]; intros; omega)
      have hnl : g22 < V6.heap.size := by rw [hV]; simpa [World.setCell] using hg22c
      have hnF : FreshA cIv 2 50 V5.heap.size V6 f5bA f5bc LL := by rw [hV]; exact (HFX.out.set_neb (p := ⟨g22, 0, none⟩) HNEb.out _).set_neb (p := ⟨g22, 1, none⟩) HNEb.out _
      have hk : Below V5.heap.size V5 V6 := by rw [hV]; exact Below.setCell (Below.setCell hb1 (by show V5.heap.size ≤ g22; omega) _) (by show V5.heap.size ≤ g22; omega) _
      have hkz6 := hk.size
      have c6_0 : V6.cell? ⟨w.heap.size, 0, none⟩ = some (.int .i64 d) := by rw [hV]; first | (first | (simp [go_sem, ↓IntWalk.iteOmega, *]; done) | (simp [go_sem, ↓IntWalk.iteOmega, *]; intros; omega))
      have c6_1 : V6.cell? ⟨w.heap.size, 1, none⟩ = some (.slice A xs.length cap) := by rw [hV]; first | (first | (simp [go_sem, ↓IntWalk.iteOmega, *]; done) | (simp [go_sem, ↓IntWalk.iteOmega, *]; intros; omega))
      have c6_2 : V6.cell? ⟨w.heap.size + 1, 0, none⟩ = some (.int .i64 f) := by rw [hV]; first | (first | (simp [go_sem, ↓IntWalk.iteOmega, *]; done) | (simp [go_sem, ↓IntWalk.iteOmega, *]; intros; omega))
      have c6_3 : V6.cell? ⟨w.heap.size + 1, 1, none⟩ = some (.int .i64 t) := by rw [hV]; first | (first | (simp [go_sem, ↓IntWalk.iteOmega, *]; done) | (simp [go_sem, ↓IntWalk.iteOmega, *]; intros; omega))
      have c6_4 : V6.cell? ⟨g13, 0, none⟩ = some (.int .i64 dd) := by rw [hV]; first | (first | (simp [go_sem, ↓IntWalk.iteOmega, *]; done) | (simp [go_sem, ↓IntWalk.iteOmega, *]; intros; omega))
      have c6_5 : V6.cell? ⟨g13, 1, none⟩ = some (.slice f6aA LL.length f6ac) := by rw [hV]; first | (first | (simp [go_sem, ↓IntWalk.iteOmega, *]; done) | (simp [go_sem, ↓IntWalk.iteOmega, *]; intros; omega))
      have c6_6 : V6.cell? ⟨W4.heap.size, 0, none⟩ = some (.int .i64 d) := by rw [hV]; first | (first | (simp [go_sem, ↓IntWalk.iteOmega, *]; done) | (simp [go_sem, ↓IntWalk.iteOmega, *]; intros; omega))
      have c6_7 : V6.cell? ⟨W4.heap.size, 1, none⟩ = some (.slice (some ⟨gx, 0, none⟩) xs.length xs.length) := by rw [hV]; first | (first | (simp [go_sem, ↓IntWalk.iteOmega, *]; done) | (simp [go_sem, ↓IntWalk.iteOmega, *]; intros; omega))
      have b6_0 : w.heap.size < V6.heap.size := by omega
      have b6_1 : w.heap.size + 1 < V6.heap.size := by omega
      have b6_2 : g13 < V6.heap.size := by omega
      have b6_3 : W4.heap.size < V6.heap.size := by omega
      have R6_0 := hid (FreshA.below (cf := cIv) (sz := 2) (T := 50) (B := V2.heap.size) R5_0.out hk)
      have R6_1 := hid (FreshA.below (cf := cIv) (sz := 2) (T := 50) (B := V3.heap.size) R5_1.out hk)
      have hw6 : Below w.heap.size w V6 := Below.trans hw (Below.mono hk (by have := hw.size; omega))
      clear hw hk
      have hw := hw6
      clear hw6
      have hwz := hw.size
      clear c5_0 c5_1 c5_2 c5_3 c5_4 c5_5 d5_6 d5_7 R5_0 R5_1
      clear hV hb1 hrP
      have d6_8 : V6.cell? ⟨g22, 0, none⟩ = some (.int .i64 dd) := hn0
      have d6_9 : V6.cell? ⟨g22, 1, none⟩ = some (.slice f5bA LL.length f5bc) := hn1
      have e6_4 : g22 < V6.heap.size := hnl
      have S6_2 : Hid (FreshA cIv 2 50 V5.heap.size V6 f5bA f5bc LL) := hid (hnF)
      have loS6_2 := S6_2.out.lo
      have hiS6_2 := S6_2.out.hi
      clear hn0 hn1 hnl hnF HFX
      clear hrX
      refine (c_laws_eqBridge _ _ _ _ _ _ _ _ _ S6_2.out.rds R6_0.out.rds (by omega) (by omega)).mono ?_
      rintro e W7 ⟨rfl, hb⟩
      have hk : Below V6.heap.size V6 W7 := hb
      have hkz7 := hk.size
      have c7_0 : W7.cell? ⟨w.heap.size, 0, none⟩ = some (.int .i64 d) := (hb.cell (p := ⟨w.heap.size, 0, none⟩) (by show w.heap.size < _; omega)).trans c6_0
      have c7_1 : W7.cell? ⟨w.heap.size, 1, none⟩ = some (.slice A xs.length cap) := (hb.cell (p := ⟨w.heap.size, 1, none⟩) (by show w.heap.size < _; omega)).trans c6_1
      have c7_2 : W7.cell? ⟨w.heap.size + 1, 0, none⟩ = some (.int .i64 f) := (hb.cell (p := ⟨w.heap.size + 1, 0, none⟩) (by show w.heap.size + 1 < _; omega)).trans c6_2
      have c7_3 : W7.cell? ⟨w.heap.size + 1, 1, none⟩ = some (.int .i64 t) := (hb.cell (p := ⟨w.heap.size + 1, 1, none⟩) (by show w.heap.size + 1 < _; omega)).trans c6_3
      have c7_4 : W7.cell? ⟨g13, 0, none⟩ = some (.int .i64 dd) := (hb.cell (p := ⟨g13, 0, none⟩) (by show g13 < _; omega)).trans c6_4
      have c7_5 : W7.cell? ⟨g13, 1, none⟩ = some (.slice f6aA LL.length f6ac) := (hb.cell (p := ⟨g13, 1, none⟩) (by show g13 < _; omega)).trans c6_5
      have c7_6 : W7.cell? ⟨W4.heap.size, 0, none⟩ = some (.int .i64 d) := (hb.cell (p := ⟨W4.heap.size, 0, none⟩) (by show W4.heap.size < _; omega)).trans c6_6
      have c7_7 : W7.cell? ⟨W4.heap.size, 1, none⟩ = some (.slice (some ⟨gx, 0, none⟩) xs.length xs.length) := (hb.cell (p := ⟨W4.heap.size, 1, none⟩) (by show W4.heap.size < _; omega)).trans c6_7
      have c7_8 : W7.cell? ⟨g22, 0, none⟩ = some (.int .i64 dd) := (hb.cell (p := ⟨g22, 0, none⟩) (by show g22 < _; omega)).trans d6_8
      have c7_9 : W7.cell? ⟨g22, 1, none⟩ = some (.slice f5bA LL.length f5bc) := (hb.cell (p := ⟨g22, 1, none⟩) (by show g22 < _; omega)).trans d6_9
      have b7_0 : w.heap.size < W7.heap.size := by omega
      have b7_1 : w.heap.size + 1 < W7.heap.size := by omega
      have b7_2 : g13 < W7.heap.size := by omega
      have b7_3 : W4.heap.size < W7.heap.size := by omega
      have b7_4 : g22 < W7.heap.size := by omega
      have R7_0 := hid (FreshA.below (cf := cIv) (sz := 2) (T := 50) (B := V2.heap.size) R6_0.out hk)
      have R7_1 := hid (FreshA.below (cf := cIv) (sz := 2) (T := 50) (B := V3.heap.size) R6_1.out hk)
      have R7_2 := hid (FreshA.below (cf := cIv) (sz := 2) (T := 50) (B := V5.heap.size) S6_2.out hk)
      have hw7 : Below w.heap.size w W7 := Below.trans hw (Below.mono hk (by have := hw.size; omega))
      clear hw hk
      have hw := hw7
      clear hw7
      have hwz := hw.size
      clear c6_0 c6_1 c6_2 c6_3 c6_4 c6_5 c6_6 c6_7 d6_8 d6_9 R6_0 R6_1 S6_2
      clear hb
      go_wp2_with (fail)
      refine wp_named ?_
      intro V8 hV
      have hk : Below W7.heap.size W7 V8 := by rw [hV]; (repeat' (first | with_reducible exact Below.refl _ _ | with_reducible assumption | with_reducible refine Below.setCell ?_ ?_ _ | with_reducible refine Below.drew ?_ | with_reducible refine Below.alloc ?_ ?_ _ | with_reducible refine Below.trans ?_ (Below.mono (by assumption) ?_) | (dsimp only; omega) | (simp; done) | (simp; omega) | omega))
      have hkz8 := hk.size
      have c8_0 : V8.cell? ⟨w.heap.size, 0, none⟩ = some (.int .i64 d) := by rw [hV]; first | exact c7_0 | (first | (simp [go_sem, ↓IntWalk.iteOmega, *]; done) | (simp [go_sem, ↓IntWalk.iteOmega, *]; intros; omega))
      have c8_1 : V8.cell? ⟨w.heap.size, 1, none⟩ = some (.slice A xs.length cap) := by rw [hV]; first | exact c7_1 | (first | (simp [go_sem, ↓IntWalk.iteOmega, *]; done) | (simp [go_sem, ↓IntWalk.iteOmega, *]; intros; omega))
      have c8_2 : V8.cell? ⟨w.heap.size + 1, 0, none⟩ = some (.int .i64 f) := by rw [hV]; first | exact c7_2 | (first | (simp [go_sem, ↓IntWalk.iteOmega, *]; done) | (simp [go_sem, ↓IntWalk.iteOmega, *]; intros; omega))
      have c8_3 : V8.cell? ⟨w.heap.size + 1, 1, none⟩ = some (.int .i64 t) := by rw [hV]; first | exact c7_3 | (first | (simp [go_sem, ↓IntWalk.iteOmega, *]; done) | (simp [go_sem, ↓IntWalk.iteOmega, *]; intros; omega))
      have c8_4 : V8.cell? ⟨g13, 0, none⟩ = some (.int .i64 dd) := by rw [hV]; first | exact c7_4 | (first | (simp [go_sem, ↓IntWalk.iteOmega, *]; done) | (simp [go_sem, ↓IntWalk.iteOmega, *]; intros; omega))
      have c8_5 : V8.cell? ⟨g13, 1, none⟩ = some (.slice f6aA LL.length f6ac) := by rw [hV]; first | exact c7_5 | (first | (simp [go_sem, ↓IntWalk.iteOmega, *]; done) | (simp [go_sem, ↓IntWalk.iteOmega, *]; intros; omega))
      have c8_6 : V8.cell? ⟨W4.heap.size, 0, none⟩ = some (.int .i64 d) := by rw [hV]; first | exact c7_6 | (first | (simp [go_sem, ↓IntWalk.iteOmega, *]; done) | (simp [go_sem, ↓IntWalk.iteOmega, *]; intros; omega))
      have c8_7 : V8.cell? ⟨W4.heap.size, 1, none⟩ = some (.slice (some ⟨gx, 0, none⟩) xs.length xs.length) := by rw [hV]; first | exact c7_7 | (first | (simp [go_sem, ↓IntWalk.iteOmega, *]; done) | (simp [go_sem, ↓IntWalk.iteOmega, *]; intros; omega))
      have c8_8 : V8.cell? ⟨g22, 0, none⟩ = some (.int .i64 dd) := by rw [hV]; first | exact c7_8 | (first | (simp [go_sem, ↓IntWalk.iteOmega, *]; done) | (simp [go_sem, ↓IntWalk.iteOmega, *]; intros; omega))
      have c8_9 : V8.cell? ⟨g22, 1, none⟩ = some (.slice f5bA LL.length f5bc) := by rw [hV]; first | exact c7_9 | (first | (simp [go_sem, ↓IntWalk.iteOmega, *]; done) | (simp [go_sem, ↓IntWalk.iteOmega, *]; intros; omega))
      have b8_0 : w.heap.size < V8.heap.size := by omega
      have b8_1 : w.heap.size + 1 < V8.heap.size := by omega
      have b8_2 : g13 < V8.heap.size := by omega
      have b8_3 : W4.heap.size < V8.heap.size := by omega
      have b8_4 : g22 < V8.heap.size := by omega
      have R8_0 := hid (FreshA.below (cf := cIv) (sz := 2) (T := 50) (B := V2.heap.size) R7_0.out hk)
      have R8_1 := hid (FreshA.below (cf := cIv) (sz := 2) (T := 50) (B := V3.heap.size) R7_1.out hk)
      have R8_2 := hid (FreshA.below (cf := cIv) (sz := 2) (T := 50) (B := V5.heap.size) R7_2.out hk)
      have hw8 : Below w.heap.size w V8 := Below.trans hw (Below.mono hk (by have := hw.size; omega))
      clear hw hk
      have hw := hw8
      clear hw8
      have hwz := hw.size
      clear c7_0 c7_1 c7_2 c7_3 c7_4 c7_5 c7_6 c7_7 c7_8 c7_9 R7_0 R7_1 R7_2
      clear hV
      have hrP := Rds.below hr_xs hw
      have hrX := R8_1.out.rds
      refine wp_region_w (n := 5) [] [] (FS10_10 d A xs cap f t dd LL bb gx W4 w) rfl (by kernel_rfl) (fun _ _ d _ _ h => by cases d <;> exact h) ?_ ?_ ?_ ?_ ?_ ?_
      · intro iq
        match iq with
        | 0 | 1 | 3 | 4 => exact Stable.const _
        | 2 => exact FreshBr.stable
        | n + 5 => exact Stable.const _
      · intro iq hi
        exact absurd hi (by simp)
      · intro iq hi
        exact absurd hi (by simp)
      · intro iq o hi hl ho vals w1 hb1 hf
        exact absurd hl (by simp)
      · intro iq o hi hl ho vals w1 hb1 hf
        match iq, hi with
        | 0, _ =>
          injection ho with ho
          subst ho
          clear hl
          simp only [fillA, List.take, List.drop, put_none, Act.put, List.setIfInBounds_toArray, List.set_cons_zero, List.set_cons_succ, Nat.reduceAdd]
          clear hf
          have hc1 := cellOf hb1
          have hf1 := frozOf hb1
          have hz1 := sizeOf hb1
          try simp at hz1
          go_wp2_with (fail)
          exact RQ.mk rfl ⟨(by first | rfl | (simp [FS10_10]; done) | (simp [FS10_10, *]; done) | (simp [FS10_10, gotV]; done) | (simp [FS10_10, gotV]; omega)), fun h => absurd h (by decide)⟩ (Below.refl _ _)
        | 1, _ =>
          injection ho with ho
          subst ho
          clear hl
          simp only [fillA, List.take, List.drop, put_none, Act.put, List.setIfInBounds_toArray, List.set_cons_zero, List.set_cons_succ, Nat.reduceAdd]
          clear hf
          have hc1 := cellOf hb1
          have hf1 := frozOf hb1
          have hz1 := sizeOf hb1
          try simp at hz1
          go_wp2_with (fail)
          exact RQ.mk rfl ⟨(by first | rfl | (simp [FS10_10]; done) | (simp [FS10_10, *]; done) | (simp [FS10_10, gotV]; done) | (simp [FS10_10, gotV]; omega)), fun h => absurd h (by decide)⟩ (Below.refl _ _)
        | 2, _ =>
          injection ho with ho
          subst ho
          clear hl
          simp only [fillA, List.take, List.drop, put_none, Act.put, List.setIfInBounds_toArray, List.set_cons_zero, List.set_cons_succ, Nat.reduceAdd]
          have f1 := hf 1 (by decide) (by kernel_rfl)
          generalize vals 1 = v1 at *
          subst f1
          clear hf
          have hc1 := cellOf hb1
          have hf1 := frozOf hb1
          have hz1 := sizeOf hb1
          try simp at hz1
          go_wp2_with (first | (go_at_call 16; refine (c_laws_toBridge _ _ _ _ _ (by first | assumption | exact Rds.below (by assumption) (by (repeat' (first | exact Below.refl _ _ | assumption | refine Below.setCell ?_ ?_ _ | refine Below.drew ?_ | refine Below.alloc ?_ ?_ _ | refine Below.trans ?_ (Below.mono (by assumption) ?_) | (simp; done) | (simp; omega) | omega)))) (by omega)).mono ?_; rintro e w' ⟨g, rfl, hg, ho, hb⟩; have hr := ho.rds; have hlo := ho.lt; have HO := hid ho; clear ho; have hc := cellOf hb; have hf := frozOf hb; have hz := sizeOf hb; try simp at hz))
          exact RQ.mk rfl ⟨⟨_, rfl, (by first | omega | (simp at *; omega)), HO.out⟩, fun h => absurd h (by decide)⟩ (by (repeat' (first | exact Below.refl _ _ | assumption | refine Below.setCell ?_ ?_ _ | refine Below.drew ?_ | refine Below.alloc ?_ ?_ _ | refine Below.trans ?_ (Below.mono (by assumption) ?_) | (simp; done) | (simp; omega) | omega)))
        | 3, _ =>
          injection ho with ho
          subst ho
          clear hl
          simp only [fillA, List.take, List.drop, put_none, Act.put, List.setIfInBounds_toArray, List.set_cons_zero, List.set_cons_succ, Nat.reduceAdd]
          have f0 := hf 0 (by decide) (by kernel_rfl)
          generalize vals 0 = v0 at *
          subst f0
          have f2 := hf 2 (by decide) (by kernel_rfl)
          generalize vals 2 = v2 at *
          obtain ⟨gr1, rfl, hgr1a, hgr1b⟩ := f2
          try simp at hgr1a
          have hgr1r := hgr1b.rds
          have hgr1l := hgr1b.lt
          clear hgr1b
          clear hf
          have hc1 := cellOf hb1
          have hf1 := frozOf hb1
          have hz1 := sizeOf hb1
          try simp at hz1
          go_wp2_with (first | (go_at_call 18; refine (c_laws_eqBridge _ _ _ _ _ _ _ _ _ (by first | assumption | exact Rds.below (by assumption) (by (repeat' (first | exact Below.refl _ _ | assumption | refine Below.setCell ?_ ?_ _ | refine Below.drew ?_ | refine Below.alloc ?_ ?_ _ | refine Below.trans ?_ (Below.mono (by assumption) ?_) | (simp; done) | (simp; omega) | omega)))) (by first | assumption | exact Rds.below (by assumption) (by (repeat' (first | exact Below.refl _ _ | assumption | refine Below.setCell ?_ ?_ _ | refine Below.drew ?_ | refine Below.alloc ?_ ?_ _ | refine Below.trans ?_ (Below.mono (by assumption) ?_) | (simp; done) | (simp; omega) | omega)))) (by omega) (by omega)).mono ?_; rintro e w' ⟨rfl, hb⟩; have hc := cellOf hb; have hf := frozOf hb; have hz := sizeOf hb; try simp at hz))
          exact RQ.mk rfl ⟨(by first | rfl | (simp [FS10_10]; done) | (simp [FS10_10, *]; done) | (simp [FS10_10, gotV]; done) | (simp [FS10_10, gotV]; omega)), fun h => absurd h (by decide)⟩ (by (repeat' (first | exact Below.refl _ _ | assumption | refine Below.setCell ?_ ?_ _ | refine Below.drew ?_ | refine Below.alloc ?_ ?_ _ | refine Below.trans ?_ (Below.mono (by assumption) ?_) | (simp; done) | (simp; omega) | omega)))
        | 4, _ =>
          injection ho with ho
          subst ho
          clear hl
          simp only [fillA, List.take, List.drop, put_none, Act.put, List.setIfInBounds_toArray, List.set_cons_zero, List.set_cons_succ, Nat.reduceAdd]
          have f3 := hf 3 (by decide) (by kernel_rfl)
          generalize vals 3 = v3 at *
          subst f3
          clear hf
          go_wp2_with (fail)
          exact RQ.mk rfl ⟨(by first | rfl | (simp [FS10_10]; done) | (simp [FS10_10, *]; done) | (simp [FS10_10, gotV]; done) | (simp [FS10_10, gotV]; omega)), fun h => absurd h (by decide)⟩ (Below.refl _ _)
      · intro vals Zx hb1 hf hd
        simp only [fillA, List.take, List.drop, put_none, Act.put, List.setIfInBounds_toArray, List.set_cons_zero, List.set_cons_succ, Nat.reduceAdd]
        clear hd
        have f0 := hf 0 (by decide)
        generalize vals 0 = v0 at *
        subst f0
        have f1 := hf 1 (by decide)
        generalize vals 1 = v1 at *
        subst f1
        have f2 := hf 2 (by decide)
        generalize vals 2 = v2 at *
        obtain ⟨gr1, rfl, hgr1a, hgr1b⟩ := f2
        try simp at hgr1a
        have hgr1r := hgr1b.rds
        have hgr1l := hgr1b.lt
        have Hgr1 := hid hgr1b
        clear hgr1b
        have f3 := hf 3 (by decide)
        generalize vals 3 = v3 at *
        subst f3
        have f4 := hf 4 (by decide)
        generalize vals 4 = v4 at *
        subst f4
        clear hf
        have hc1 := cellOf hb1
        have hf1 := frozOf hb1
        have hz1 := sizeOf hb1
        try simp at hz1
        clear hc1 hf1
        have hk : Below V8.heap.size V8 Zx := hb1
        have hkz9 := hk.size
        have c9_0 : Zx.cell? ⟨w.heap.size, 0, none⟩ = some (.int .i64 d) := (hb1.cell (p := ⟨w.heap.size, 0, none⟩) (by show w.heap.size < _; omega)).trans c8_0
        have c9_1 : Zx.cell? ⟨w.heap.size, 1, none⟩ = some (.slice A xs.length cap) := (hb1.cell (p := ⟨w.heap.size, 1, none⟩) (by show w.heap.size < _; omega)).trans c8_1
        have c9_2 : Zx.cell? ⟨w.heap.size + 1, 0, none⟩ = some (.int .i64 f) := (hb1.cell (p := ⟨w.heap.size + 1, 0, none⟩) (by show w.heap.size + 1 < _; omega)).trans c8_2
        have c9_3 : Zx.cell? ⟨w.heap.size + 1, 1, none⟩ = some (.int .i64 t) := (hb1.cell (p := ⟨w.heap.size + 1, 1, none⟩) (by show w.heap.size + 1 < _; omega)).trans c8_3
        have c9_4 : Zx.cell? ⟨g13, 0, none⟩ = some (.int .i64 dd) := (hb1.cell (p := ⟨g13, 0, none⟩) (by show g13 < _; omega)).trans c8_4
        have c9_5 : Zx.cell? ⟨g13, 1, none⟩ = some (.slice f6aA LL.length f6ac) := (hb1.cell (p := ⟨g13, 1, none⟩) (by show g13 < _; omega)).trans c8_5
        have c9_6 : Zx.cell? ⟨W4.heap.size, 0, none⟩ = some (.int .i64 d) := (hb1.cell (p := ⟨W4.heap.size, 0, none⟩) (by show W4.heap.size < _; omega)).trans c8_6
        have c9_7 : Zx.cell? ⟨W4.heap.size, 1, none⟩ = some (.slice (some ⟨gx, 0, none⟩) xs.length xs.length) := (hb1.cell (p := ⟨W4.heap.size, 1, none⟩) (by show W4.heap.size < _; omega)).trans c8_7
        have c9_8 : Zx.cell? ⟨g22, 0, none⟩ = some (.int .i64 dd) := (hb1.cell (p := ⟨g22, 0, none⟩) (by show g22 < _; omega)).trans c8_8
        have c9_9 : Zx.cell? ⟨g22, 1, none⟩ = some (.slice f5bA LL.length f5bc) := (hb1.cell (p := ⟨g22, 1, none⟩) (by show g22 < _; omega)).trans c8_9
        have b9_0 : w.heap.size < Zx.heap.size := by omega
        have b9_1 : w.heap.size + 1 < Zx.heap.size := by omega
        have b9_2 : g13 < Zx.heap.size := by omega
        have b9_3 : W4.heap.size < Zx.heap.size := by omega
        have b9_4 : g22 < Zx.heap.size := by omega
        have R9_0 := hid (FreshA.below (cf := cIv) (sz := 2) (T := 50) (B := V2.heap.size) R8_0.out hk)
        have R9_1 := hid (FreshA.below (cf := cIv) (sz := 2) (T := 50) (B := V3.heap.size) R8_1.out hk)
        have R9_2 := hid (FreshA.below (cf := cIv) (sz := 2) (T := 50) (B := V5.heap.size) R8_2.out hk)
        have hw9 : Below w.heap.size w Zx := Below.trans hw (Below.mono hk (by have := hw.size; omega))
        clear hw hk
        have hw := hw9
        clear hw9
        have hwz := hw.size
        clear c8_0 c8_1 c8_2 c8_3 c8_4 c8_5 c8_6 c8_7 c8_8 c8_9 R8_0 R8_1 R8_2
        clear hb1 hrP hrX
        go_wp2_with (fail)
        refine calls_named ?_
        intro V10 hV
        have hk : Below Zx.heap.size Zx V10 := by rw [hV]; (repeat' (first | with_reducible exact Below.refl _ _ | with_reducible assumption | with_reducible refine Below.setCell ?_ ?_ _ | with_reducible refine Below.drew ?_ | with_reducible refine Below.alloc ?_ ?_ _ | with_reducible refine Below.trans ?_ (Below.mono (by assumption) ?_) | (dsimp only; omega) | (simp; done) | (simp; omega) | omega))
        have hkz10 := hk.size
        have c10_0 : V10.cell? ⟨w.heap.size, 0, none⟩ = some (.int .i64 d) := by rw [hV]; first | exact c9_0 | (first | (simp [go_sem, ↓IntWalk.iteOmega, *]; done) | (simp [go_sem, ↓IntWalk.iteOmega, *]; intros; omega))
        have c10_1 : V10.cell? ⟨w.heap.size, 1, none⟩ = some (.slice A xs.length cap) := by rw [hV]; first | exact c9_1 | (first | (simp [go_sem, ↓IntWalk.iteOmega, *]; done) | (simp [go_sem, ↓IntWalk.iteOmega, *]; intros; omega))
        have c10_2 : V10.cell? ⟨w.heap.size + 1, 0, none⟩ = some (.int .i64 f) := by rw [hV]; first | exact c9_2 | (first | (simp [go_sem, ↓IntWalk.iteOmega, *]; done) | (simp [go_sem, ↓IntWalk.iteOmega, *]; intros; omega))
        have c10_3 : V10.cell? ⟨w.heap.size + 1, 1, none⟩ = some (.int .i64 t) := by rw [hV]; first | exact c9_3 | (first | (simp [go_sem, ↓IntWalk.iteOmega, *]; done) | (simp [go_sem, ↓IntWalk.iteOmega, *]; intros; omega))
        have c10_4 : V10.cell? ⟨g13, 0, none⟩ = some (.int .i64 dd) := by rw [hV]; first | exact c9_4 | (first | (simp [go_sem, ↓IntWalk.iteOmega, *]; done) | (simp [go_sem, ↓IntWalk.iteOmega, *]; intros; omega))
        have c10_5 : V10.cell? ⟨g13, 1, none⟩ = some (.slice f6aA LL.length f6ac) := by rw [hV]; first | exact c9_5 | (first | (simp [go_sem, ↓IntWalk.iteOmega, *]; done) | (simp [go_sem, ↓IntWalk.iteOmega, *]; intros; omega))
        have c10_6 : V10.cell? ⟨W4.heap.size, 0, none⟩ = some (.int .i64 d) := by rw [hV]; first | exact c9_6 | (first | (simp [go_sem, ↓IntWalk.iteOmega, *]; done) | (simp [go_sem, ↓IntWalk.iteOmega, *]; intros; omega))
        have c10_7 : V10.cell? ⟨W4.heap.size, 1, none⟩ = some (.slice (some ⟨gx, 0, none⟩) xs.length xs.length) := by rw [hV]; first | exact c9_7 | (first | (simp [go_sem, ↓IntWalk.iteOmega, *]; done) | (simp [go_sem, ↓IntWalk.iteOmega, *]; intros; omega))
        have c10_8 : V10.cell? ⟨g22, 0, none⟩ = some (.int .i64 dd) := by rw [hV]; first | exact c9_8 | (first | (simp [go_sem, ↓IntWalk.iteOmega, *]; done) | (simp [go_sem, ↓IntWalk.iteOmega, *]; intros; omega))
        have c10_9 : V10.cell? ⟨g22, 1, none⟩ = some (.slice f5bA LL.length f5bc) := by rw [hV]; first | exact c9_9 | (first | (simp [go_sem, ↓IntWalk.iteOmega, *]; done) | (simp [go_sem, ↓IntWalk.iteOmega, *]; intros; omega))
        have b10_0 : w.heap.size < V10.heap.size := by omega
        have b10_1 : w.heap.size + 1 < V10.heap.size := by omega
        have b10_2 : g13 < V10.heap.size := by omega
        have b10_3 : W4.heap.size < V10.heap.size := by omega
        have b10_4 : g22 < V10.heap.size := by omega
        have R10_0 := hid (FreshA.below (cf := cIv) (sz := 2) (T := 50) (B := V2.heap.size) R9_0.out hk)
        have R10_1 := hid (FreshA.below (cf := cIv) (sz := 2) (T := 50) (B := V3.heap.size) R9_1.out hk)
        have R10_2 := hid (FreshA.below (cf := cIv) (sz := 2) (T := 50) (B := V5.heap.size) R9_2.out hk)
        have hw10 : Below w.heap.size w V10 := Below.trans hw (Below.mono hk (by have := hw.size; omega))
        clear hw hk
        have hw := hw10
        clear hw10
        have hwz := hw.size
        clear c9_0 c9_1 c9_2 c9_3 c9_4 c9_5 c9_6 c9_7 c9_8 c9_9 R9_0 R9_1 R9_2
        clear hV
        refine (c_laws_markBridge d _ _ xs _ 1 _ R10_1.out (by omega) (by omega)).mono ?_
        rintro e W11 ⟨rfl, hFm, hg⟩
        have hkz11 := hg.size
        have c11_0 : W11.cell? ⟨w.heap.size, 0, none⟩ = some (.int .i64 d) := by first | exact (cellGrown hg loS4_1 hiS4_1 (w.heap.size) 0).trans (by rw [if_pos ⟨by omega, by omega⟩]; exact c10_0)
        have c11_1 : W11.cell? ⟨w.heap.size, 1, none⟩ = some (.slice A xs.length cap) := by first | exact (cellGrown hg loS4_1 hiS4_1 (w.heap.size) 1).trans (by rw [if_pos ⟨by omega, by omega⟩]; exact c10_1)
        have c11_2 : W11.cell? ⟨w.heap.size + 1, 0, none⟩ = some (.int .i64 f) := by first | exact (cellGrown hg loS4_1 hiS4_1 (w.heap.size + 1) 0).trans (by rw [if_pos ⟨by omega, by omega⟩]; exact c10_2)
        have c11_3 : W11.cell? ⟨w.heap.size + 1, 1, none⟩ = some (.int .i64 t) := by first | exact (cellGrown hg loS4_1 hiS4_1 (w.heap.size + 1) 1).trans (by rw [if_pos ⟨by omega, by omega⟩]; exact c10_3)
        have c11_4 : W11.cell? ⟨g13, 0, none⟩ = some (.int .i64 dd) := by first | exact (cellGrown hg loS4_1 hiS4_1 (g13) 0).trans (by rw [if_pos ⟨by omega, by omega⟩]; exact c10_4)
        have c11_5 : W11.cell? ⟨g13, 1, none⟩ = some (.slice f6aA LL.length f6ac) := by first | exact (cellGrown hg loS4_1 hiS4_1 (g13) 1).trans (by rw [if_pos ⟨by omega, by omega⟩]; exact c10_5)
        have c11_6 : W11.cell? ⟨W4.heap.size, 0, none⟩ = some (.int .i64 d) := by first | exact (cellGrown hg loS4_1 hiS4_1 (W4.heap.size) 0).trans (by rw [if_pos ⟨by omega, by omega⟩]; exact c10_6)
        have c11_7 : W11.cell? ⟨W4.heap.size, 1, none⟩ = some (.slice (some ⟨gx, 0, none⟩) xs.length xs.length) := by first | exact (cellGrown hg loS4_1 hiS4_1 (W4.heap.size) 1).trans (by rw [if_pos ⟨by omega, by omega⟩]; exact c10_7)
        have c11_8 : W11.cell? ⟨g22, 0, none⟩ = some (.int .i64 dd) := by first | exact (cellGrown hg loS4_1 hiS4_1 (g22) 0).trans (by rw [if_pos ⟨by omega, by omega⟩]; exact c10_8)
        have c11_9 : W11.cell? ⟨g22, 1, none⟩ = some (.slice f5bA LL.length f5bc) := by first | exact (cellGrown hg loS4_1 hiS4_1 (g22) 1).trans (by rw [if_pos ⟨by omega, by omega⟩]; exact c10_9)
        have b11_0 : w.heap.size < W11.heap.size := by omega
        have b11_1 : w.heap.size + 1 < W11.heap.size := by omega
        have b11_2 : g13 < W11.heap.size := by omega
        have b11_3 : W4.heap.size < W11.heap.size := by omega
        have b11_4 : g22 < W11.heap.size := by omega
        have R11_0 : Hid (FreshA cIv 2 50 V2.heap.size W11 f6aA f6ac LL) := hid (FreshA.grown R10_0.out hg (by first | exact apart_lh (Hi.mono hiS3_0 (by omega)) loS4_1 | exact apart_hl (Lo.mono loS3_0 (by omega)) hiS4_1))
        have R11_1 := hid hFm
        have R11_2 : Hid (FreshA cIv 2 50 V5.heap.size W11 f5bA f5bc LL) := hid (FreshA.grown R10_2.out hg (by first | exact apart_lh (Hi.mono hiS6_2 (by omega)) loS4_1 | exact apart_hl (Lo.mono loS6_2 (by omega)) hiS4_1))
        have hw11 : Below w.heap.size w W11 := below_grown hw hwz hg (Lo.mono loS4_1 (by omega))
        clear hw
        have hw := hw11
        clear hw11
        have hwz := hw.size
        clear hg hFm c10_0 c10_1 c10_2 c10_3 c10_4 c10_5 c10_6 c10_7 c10_8 c10_9 R10_0 R10_1 R10_2
        go_wp2_with (fail)
        refine calls_named ?_
        intro V12 hV
        have hk : Below W11.heap.size W11 V12 := by rw [hV]; (repeat' (first | with_reducible exact Below.refl _ _ | with_reducible assumption | with_reducible refine Below.setCell ?_ ?_ _ | with_reducible refine Below.drew ?_ | with_reducible refine Below.alloc ?_ ?_ _ | with_reducible refine Below.trans ?_ (Below.mono (by assumption) ?_) | (dsimp only; omega) | (simp; done) | (simp; omega) | omega))
        have hkz12 := hk.size
        have c12_0 : V12.cell? ⟨w.heap.size, 0, none⟩ = some (.int .i64 d) := by rw [hV]; first | exact c11_0 | (first | (simp [go_sem, ↓IntWalk.iteOmega, *]; done) | (simp [go_sem, ↓IntWalk.iteOmega, *]; intros; omega))
        have c12_1 : V12.cell? ⟨w.heap.size, 1, none⟩ = some (.slice A xs.length cap) := by rw [hV]; first | exact c11_1 | (first | (simp [go_sem, ↓IntWalk.iteOmega, *]; done) | (simp [go_sem, ↓IntWalk.iteOmega, *]; intros; omega))
        have c12_2 : V12.cell? ⟨w.heap.size + 1, 0, none⟩ = some (.int .i64 f) := by rw [hV]; first | exact c11_2 | (first | (simp [go_sem, ↓IntWalk.iteOmega, *]; done) | (simp [go_sem, ↓IntWalk.iteOmega, *]; intros; omega))
        have c12_3 : V12.cell? ⟨w.heap.size + 1, 1, none⟩ = some (.int .i64 t) := by rw [hV]; first | exact c11_3 | (first | (simp [go_sem, ↓IntWalk.iteOmega, *]; done) | (simp [go_sem, ↓IntWalk.iteOmega, *]; intros; omega))
        have c12_4 : V12.cell? ⟨g13, 0, none⟩ = some (.int .i64 dd) := by rw [hV]; first | exact c11_4 | (first | (simp [go_sem, ↓IntWalk.iteOmega, *]; done) | (simp [go_sem, ↓IntWalk.iteOmega, *]; intros; omega))
        have c12_5 : V12.cell? ⟨g13, 1, none⟩ = some (.slice f6aA LL.length f6ac) := by rw [hV]; first | exact c11_5 | (first | (simp [go_sem, ↓IntWalk.iteOmega, *]; done) | (simp [go_sem, ↓IntWalk.iteOmega, *]; intros; omega))
        have c12_6 : V12.cell? ⟨W4.heap.size, 0, none⟩ = some (.int .i64 d) := by rw [hV]; first | exact c11_6 | (first | (simp [go_sem, ↓IntWalk.iteOmega, *]; done) | (simp [go_sem, ↓IntWalk.iteOmega, *]; intros; omega))
        have c12_7 : V12.cell? ⟨W4.heap.size, 1, none⟩ = some (.slice (some ⟨gx, 0, none⟩) xs.length xs.length) := by rw [hV]; first | exact c11_7 | (first | (simp [go_sem, ↓IntWalk.iteOmega, *]; done) | (simp [go_sem, ↓IntWalk.iteOmega, *]; intros; omega))
        have c12_8 : V12.cell? ⟨g22, 0, none⟩ = some (.int .i64 dd) := by rw [hV]; first | exact c11_8 | (first | (simp [go_sem, ↓IntWalk.iteOmega, *]; done) | (simp [go_sem, ↓IntWalk.iteOmega, *]; intros; omega))
        have c12_9 : V12.cell? ⟨g22, 1, none⟩ = some (.slice f5bA LL.length f5bc) := by rw [hV]; first | exact c11_9 | (first | (simp [go_sem, ↓IntWalk.iteOmega, *]; done) | (simp [go_sem, ↓IntWalk.iteOmega, *]; intros; omega))
        have b12_0 : w.heap.size < V12.heap.size := by omega
        have b12_1 : w.heap.size + 1 < V12.heap.size := by omega
        have b12_2 : g13 < V12.heap.size := by omega
        have b12_3 : W4.heap.size < V12.heap.size := by omega
        have b12_4 : g22 < V12.heap.size := by omega
        have R12_0 := hid (FreshA.below (cf := cIv) (sz := 2) (T := 50) (B := V2.heap.size) R11_0.out hk)
        have R12_1 := hid (FreshA.below (cf := cIv) (sz := 2) (T := 50) (B := V3.heap.size) R11_1.out hk)
        have R12_2 := hid (FreshA.below (cf := cIv) (sz := 2) (T := 50) (B := V5.heap.size) R11_2.out hk)
        have hw12 : Below w.heap.size w V12 := Below.trans hw (Below.mono hk (by have := hw.size; omega))
        clear hw hk
        have hw := hw12
        clear hw12
        have hwz := hw.size
        clear c11_0 c11_1 c11_2 c11_3 c11_4 c11_5 c11_6 c11_7 c11_8 c11_9 R11_0 R11_1 R11_2
        clear hV
        refine (c_laws_eqBridge _ _ _ _ _ _ _ _ _ R12_2.out.rds R12_0.out.rds (by omega) (by omega)).mono ?_
        rintro e W13 ⟨rfl, hb⟩
        have hk : Below V12.heap.size V12 W13 := hb
        have hkz13 := hk.size
        have c13_0 : W13.cell? ⟨w.heap.size, 0, none⟩ = some (.int .i64 d) := (hb.cell (p := ⟨w.heap.size, 0, none⟩) (by show w.heap.size < _; omega)).trans c12_0
        have c13_1 : W13.cell? ⟨w.heap.size, 1, none⟩ = some (.slice A xs.length cap) := (hb.cell (p := ⟨w.heap.size, 1, none⟩) (by show w.heap.size < _; omega)).trans c12_1
        have c13_2 : W13.cell? ⟨w.heap.size + 1, 0, none⟩ = some (.int .i64 f) := (hb.cell (p := ⟨w.heap.size + 1, 0, none⟩) (by show w.heap.size + 1 < _; omega)).trans c12_2
        have c13_3 : W13.cell? ⟨w.heap.size + 1, 1, none⟩ = some (.int .i64 t) := (hb.cell (p := ⟨w.heap.size + 1, 1, none⟩) (by show w.heap.size + 1 < _; omega)).trans c12_3
        have c13_4 : W13.cell? ⟨g13, 0, none⟩ = some (.int .i64 dd) := (hb.cell (p := ⟨g13, 0, none⟩) (by show g13 < _; omega)).trans c12_4
        have c13_5 : W13.cell? ⟨g13, 1, none⟩ = some (.slice f6aA LL.length f6ac) := (hb.cell (p := ⟨g13, 1, none⟩) (by show g13 < _; omega)).trans c12_5
        have c13_6 : W13.cell? ⟨W4.heap.size, 0, none⟩ = some (.int .i64 d) := (hb.cell (p := ⟨W4.heap.size, 0, none⟩) (by show W4.heap.size < _; omega)).trans c12_6
        have c13_7 : W13.cell? ⟨W4.heap.size, 1, none⟩ = some (.slice (some ⟨gx, 0, none⟩) xs.length xs.length) := (hb.cell (p := ⟨W4.heap.size, 1, none⟩) (by show W4.heap.size < _; omega)).trans c12_7
        have c13_8 : W13.cell? ⟨g22, 0, none⟩ = some (.int .i64 dd) := (hb.cell (p := ⟨g22, 0, none⟩) (by show g22 < _; omega)).trans c12_8
        have c13_9 : W13.cell? ⟨g22, 1, none⟩ = some (.slice f5bA LL.length f5bc) := (hb.cell (p := ⟨g22, 1, none⟩) (by show g22 < _; omega)).trans c12_9
        have b13_0 : w.heap.size < W13.heap.size := by omega
        have b13_1 : w.heap.size + 1 < W13.heap.size := by omega
        have b13_2 : g13 < W13.heap.size := by omega
        have b13_3 : W4.heap.size < W13.heap.size := by omega
        have b13_4 : g22 < W13.heap.size := by omega
        have R13_0 := hid (FreshA.below (cf := cIv) (sz := 2) (T := 50) (B := V2.heap.size) R12_0.out hk)
        have R13_1 := hid (FreshA.below (cf := cIv) (sz := 2) (T := 50) (B := V3.heap.size) R12_1.out hk)
        have R13_2 := hid (FreshA.below (cf := cIv) (sz := 2) (T := 50) (B := V5.heap.size) R12_2.out hk)
        have hw13 : Below w.heap.size w W13 := Below.trans hw (Below.mono hk (by have := hw.size; omega))
        clear hw hk
        have hw := hw13
        clear hw13
        have hwz := hw.size
        clear c12_0 c12_1 c12_2 c12_3 c12_4 c12_5 c12_6 c12_7 c12_8 c12_9 R12_0 R12_1 R12_2
        clear hb
        go_wp2_with (fail)
        refine calls_named ?_
        intro V14 hV
        have hk : Below W13.heap.size W13 V14 := by rw [hV]; (repeat' (first | with_reducible exact Below.refl _ _ | with_reducible assumption | with_reducible refine Below.setCell ?_ ?_ _ | with_reducible refine Below.drew ?_ | with_reducible refine Below.alloc ?_ ?_ _ | with_reducible refine Below.trans ?_ (Below.mono (by assumption) ?_) | (dsimp only; omega) | (simp; done) | (simp; omega) | omega))
        have hkz14 := hk.size
        have c14_0 : V14.cell? ⟨w.heap.size, 0, none⟩ = some (.int .i64 d) := by rw [hV]; first | exact c13_0 | (first | (simp [go_sem, ↓IntWalk.iteOmega, *]; done) | (simp [go_sem, ↓IntWalk.iteOmega, *]; intros; omega))
        have c14_1 : V14.cell? ⟨w.heap.size, 1, none⟩ = some (.slice A xs.length cap) := by rw [hV]; first | exact c13_1 | (first | (simp [go_sem, ↓IntWalk.iteOmega, *]; done) | (simp [go_sem, ↓IntWalk.iteOmega, *]; intros; omega))
        have c14_2 : V14.cell? ⟨w.heap.size + 1, 0, none⟩ = some (.int .i64 f) := by rw [hV]; first | exact c13_2 | (first | (simp [go_sem, ↓IntWalk.iteOmega, *]; done) | (simp [go_sem, ↓IntWalk.iteOmega, *]; intros; omega))
        have c14_3 : V14.cell? ⟨w.heap.size + 1, 1, none⟩ = some (.int .i64 t) := by rw [hV]; first | exact c13_3 | (first | (simp [go_sem, ↓IntWalk.iteOmega, *]; done) | (simp [go_sem, ↓IntWalk.iteOmega, *]; intros; omega))
        have c14_4 : V14.cell? ⟨g13, 0, none⟩ = some (.int .i64 dd) := by rw [hV]; first | exact c13_4 | (first | (simp [go_sem, ↓IntWalk.iteOmega, *]; done) | (simp [go_sem, ↓IntWalk.iteOmega, *]; intros; omega))
        have c14_5 : V14.cell? ⟨g13, 1, none⟩ = some (.slice f6aA LL.length f6ac) := by rw [hV]; first | exact c13_5 | (first | (simp [go_sem, ↓IntWalk.iteOmega, *]; done) | (simp [go_sem, ↓IntWalk.iteOmega, *]; intros; omega))
        have c14_6 : V14.cell? ⟨W4.heap.size, 0, none⟩ = some (.int .i64 d) := by rw [hV]; first | exact c13_6 | (first | (simp [go_sem, ↓IntWalk.iteOmega, *]; done) | (simp [go_sem, ↓IntWalk.iteOmega, *]; intros; omega))
        have c14_7 : V14.cell? ⟨W4.heap.size, 1, none⟩ = some (.slice (some ⟨gx, 0, none⟩) xs.length xs.length) := by rw [hV]; first | exact c13_7 | (first | (simp [go_sem, ↓IntWalk.iteOmega, *]; done) | (simp [go_sem, ↓IntWalk.iteOmega, *]; intros; omega))
        have c14_8 : V14.cell? ⟨g22, 0, none⟩ = some (.int .i64 dd) := by rw [hV]; first | exact c13_8 | (first | (simp [go_sem, ↓IntWalk.iteOmega, *]; done) | (simp [go_sem, ↓IntWalk.iteOmega, *]; intros; omega))
        have c14_9 : V14.cell? ⟨g22, 1, none⟩ = some (.slice f5bA LL.length f5bc) := by rw [hV]; first | exact c13_9 | (first | (simp [go_sem, ↓IntWalk.iteOmega, *]; done) | (simp [go_sem, ↓IntWalk.iteOmega, *]; intros; omega))
        have b14_0 : w.heap.size < V14.heap.size := by omega
        have b14_1 : w.heap.size + 1 < V14.heap.size := by omega
        have b14_2 : g13 < V14.heap.size := by omega
        have b14_3 : W4.heap.size < V14.heap.size := by omega
        have b14_4 : g22 < V14.heap.size := by omega
        have R14_0 := hid (FreshA.below (cf := cIv) (sz := 2) (T := 50) (B := V2.heap.size) R13_0.out hk)
        have R14_1 := hid (FreshA.below (cf := cIv) (sz := 2) (T := 50) (B := V3.heap.size) R13_1.out hk)
        have R14_2 := hid (FreshA.below (cf := cIv) (sz := 2) (T := 50) (B := V5.heap.size) R13_2.out hk)
        have hw14 : Below w.heap.size w V14 := Below.trans hw (Below.mono hk (by have := hw.size; omega))
        clear hw hk
        have hw := hw14
        clear hw14
        have hwz := hw.size
        clear c13_0 c13_1 c13_2 c13_3 c13_4 c13_5 c13_6 c13_7 c13_8 c13_9 R13_0 R13_1 R13_2
        clear hV
        refine (c_laws_markBridge dd _ _ LL _ 1 _ R14_2.out (by omega) (by omega)).mono ?_
        rintro e W15 ⟨rfl, hFm, hg⟩
        have hkz15 := hg.size
        have c15_0 : W15.cell? ⟨w.heap.size, 0, none⟩ = some (.int .i64 d) := by first | exact (cellGrown hg loS6_2 hiS6_2 (w.heap.size) 0).trans (by rw [if_pos ⟨by omega, by omega⟩]; exact c14_0)
        have c15_1 : W15.cell? ⟨w.heap.size, 1, none⟩ = some (.slice A xs.length cap) := by first | exact (cellGrown hg loS6_2 hiS6_2 (w.heap.size) 1).trans (by rw [if_pos ⟨by omega, by omega⟩]; exact c14_1)
        have c15_2 : W15.cell? ⟨w.heap.size + 1, 0, none⟩ = some (.int .i64 f) := by first | exact (cellGrown hg loS6_2 hiS6_2 (w.heap.size + 1) 0).trans (by rw [if_pos ⟨by omega, by omega⟩]; exact c14_2)
        have c15_3 : W15.cell? ⟨w.heap.size + 1, 1, none⟩ = some (.int .i64 t) := by first | exact (cellGrown hg loS6_2 hiS6_2 (w.heap.size + 1) 1).trans (by rw [if_pos ⟨by omega, by omega⟩]; exact c14_3)
        have c15_4 : W15.cell? ⟨g13, 0, none⟩ = some (.int .i64 dd) := by first | exact (cellGrown hg loS6_2 hiS6_2 (g13) 0).trans (by rw [if_pos ⟨by omega, by omega⟩]; exact c14_4)
        have c15_5 : W15.cell? ⟨g13, 1, none⟩ = some (.slice f6aA LL.length f6ac) := by first | exact (cellGrown hg loS6_2 hiS6_2 (g13) 1).trans (by rw [if_pos ⟨by omega, by omega⟩]; exact c14_5)
        have c15_6 : W15.cell? ⟨W4.heap.size, 0, none⟩ = some (.int .i64 d) := by first | exact (cellGrown hg loS6_2 hiS6_2 (W4.heap.size) 0).trans (by rw [if_pos ⟨by omega, by omega⟩]; exact c14_6)
        have c15_7 : W15.cell? ⟨W4.heap.size, 1, none⟩ = some (.slice (some ⟨gx, 0, none⟩) xs.length xs.length) := by first | exact (cellGrown hg loS6_2 hiS6_2 (W4.heap.size) 1).trans (by rw [if_pos ⟨by omega, by omega⟩]; exact c14_7)
        have c15_8 : W15.cell? ⟨g22, 0, none⟩ = some (.int .i64 dd) := by first | exact (cellGrown hg loS6_2 hiS6_2 (g22) 0).trans (by rw [if_pos ⟨by omega, by omega⟩]; exact c14_8) | exact (HNEb.out.cell hg (by omega) 0).trans c14_8
        have c15_9 : W15.cell? ⟨g22, 1, none⟩ = some (.slice f5bA LL.length f5bc) := by first | exact (cellGrown hg loS6_2 hiS6_2 (g22) 1).trans (by rw [if_pos ⟨by omega, by omega⟩]; exact c14_9) | exact (HNEb.out.cell hg (by omega) 1).trans c14_9
        have b15_0 : w.heap.size < W15.heap.size := by omega
        have b15_1 : w.heap.size + 1 < W15.heap.size := by omega
        have b15_2 : g13 < W15.heap.size := by omega
        have b15_3 : W4.heap.size < W15.heap.size := by omega
        have b15_4 : g22 < W15.heap.size := by omega
        have R15_0 : Hid (FreshA cIv 2 50 V2.heap.size W15 f6aA f6ac LL) := hid (FreshA.grown R14_0.out hg (by first | exact apart_lh (Hi.mono hiS3_0 (by omega)) loS6_2 | exact apart_hl (Lo.mono loS3_0 (by omega)) hiS6_2))
        have R15_1 : Hid (FreshA cIv 2 50 V3.heap.size W15 (some ⟨gx, 0, none⟩) xs.length (mkIv xs.length 1)) := hid (FreshA.grown R14_1.out hg (by first | exact apart_lh (Hi.mono hiS4_1 (by omega)) loS6_2 | exact apart_hl (Lo.mono loS4_1 (by omega)) hiS6_2))
        have R15_2 := hid hFm
        have hw15 : Below w.heap.size w W15 := below_grown hw hwz hg (Lo.mono loS6_2 (by omega))
        clear hw
        have hw := hw15
        clear hw15
        have hwz := hw.size
        clear hg hFm c14_0 c14_1 c14_2 c14_3 c14_4 c14_5 c14_6 c14_7 c14_8 c14_9 R14_0 R14_1 R14_2
        go_wp2_with (fail)
        refine calls_named ?_
        intro V16 hV
        have hk : Below W15.heap.size W15 V16 := by rw [hV]; (repeat' (first | with_reducible exact Below.refl _ _ | with_reducible assumption | with_reducible refine Below.setCell ?_ ?_ _ | with_reducible refine Below.drew ?_ | with_reducible refine Below.alloc ?_ ?_ _ | with_reducible refine Below.trans ?_ (Below.mono (by assumption) ?_) | (dsimp only; omega) | (simp; done) | (simp; omega) | omega))
        have hkz16 := hk.size
        have c16_0 : V16.cell? ⟨w.heap.size, 0, none⟩ = some (.int .i64 d) := by rw [hV]; first | exact c15_0 | (first | (simp [go_sem, ↓IntWalk.iteOmega, *]; done) | (simp [go_sem, ↓IntWalk.iteOmega, *]; intros; omega))
        have c16_1 : V16.cell? ⟨w.heap.size, 1, none⟩ = some (.slice A xs.length cap) := by rw [hV]; first | exact c15_1 | (first | (simp [go_sem, ↓IntWalk.iteOmega, *]; done) | (simp [go_sem, ↓IntWalk.iteOmega, *]; intros; omega))
        have c16_2 : V16.cell? ⟨w.heap.size + 1, 0, none⟩ = some (.int .i64 f) := by rw [hV]; first | exact c15_2 | (first | (simp [go_sem, ↓IntWalk.iteOmega, *]; done) | (simp [go_sem, ↓IntWalk.iteOmega, *]; intros; omega))
        have c16_3 : V16.cell? ⟨w.heap.size + 1, 1, none⟩ = some (.int .i64 t) := by rw [hV]; first | exact c15_3 | (first | (simp [go_sem, ↓IntWalk.iteOmega, *]; done) | (simp [go_sem, ↓IntWalk.iteOmega, *]; intros; omega))
        have c16_4 : V16.cell? ⟨g13, 0, none⟩ = some (.int .i64 dd) := by rw [hV]; first | exact c15_4 | (first | (simp [go_sem, ↓IntWalk.iteOmega, *]; done) | (simp [go_sem, ↓IntWalk.iteOmega, *]; intros; omega))
        have c16_5 : V16.cell? ⟨g13, 1, none⟩ = some (.slice f6aA LL.length f6ac) := by rw [hV]; first | exact c15_5 | (first | (simp [go_sem, ↓IntWalk.iteOmega, *]; done) | (simp [go_sem, ↓IntWalk.iteOmega, *]; intros; omega))
        have c16_6 : V16.cell? ⟨W4.heap.size, 0, none⟩ = some (.int .i64 d) := by rw [hV]; first | exact c15_6 | (first | (simp [go_sem, ↓IntWalk.iteOmega, *]; done) | (simp [go_sem, ↓IntWalk.iteOmega, *]; intros; omega))
        have c16_7 : V16.cell? ⟨W4.heap.size, 1, none⟩ = some (.slice (some ⟨gx, 0, none⟩) xs.length xs.length) := by rw [hV]; first | exact c15_7 | (first | (simp [go_sem, ↓IntWalk.iteOmega, *]; done) | (simp [go_sem, ↓IntWalk.iteOmega, *]; intros; omega))
        have c16_8 : V16.cell? ⟨g22, 0, none⟩ = some (.int .i64 dd) := by rw [hV]; first | exact c15_8 | (first | (simp [go_sem, ↓IntWalk.iteOmega, *]; done) | (simp [go_sem, ↓IntWalk.iteOmega, *]; intros; omega))
        have c16_9 : V16.cell? ⟨g22, 1, none⟩ = some (.slice f5bA LL.length f5bc) := by rw [hV]; first | exact c15_9 | (first | (simp [go_sem, ↓IntWalk.iteOmega, *]; done) | (simp [go_sem, ↓IntWalk.iteOmega, *]; intros; omega))
        have b16_0 : w.heap.size < V16.heap.size := by omega
        have b16_1 : w.heap.size + 1 < V16.heap.size := by omega
        have b16_2 : g13 < V16.heap.size := by omega
        have b16_3 : W4.heap.size < V16.heap.size := by omega
        have b16_4 : g22 < V16.heap.size := by omega
        have R16_0 := hid (FreshA.below (cf := cIv) (sz := 2) (T := 50) (B := V2.heap.size) R15_0.out hk)
        have R16_1 := hid (FreshA.below (cf := cIv) (sz := 2) (T := 50) (B := V3.heap.size) R15_1.out hk)
        have R16_2 := hid (FreshA.below (cf := cIv) (sz := 2) (T := 50) (B := V5.heap.size) R15_2.out hk)
        have hw16 : Below w.heap.size w V16 := Below.trans hw (Below.mono hk (by have := hw.size; omega))
        clear hw hk
        have hw := hw16
        clear hw16
        have hwz := hw.size
        clear c15_0 c15_1 c15_2 c15_3 c15_4 c15_5 c15_6 c15_7 c15_8 c15_9 R15_0 R15_1 R15_2
        clear hV
        refine (c_laws_heldBridge dd _ LL.length _ 1 _ R16_2.out.rds (by omega) (by omega)).mono ?_
        rintro e W17 ⟨rfl, hb⟩
        have hk : Below V16.heap.size V16 W17 := hb
        have hkz17 := hk.size
        have c17_0 : W17.cell? ⟨w.heap.size, 0, none⟩ = some (.int .i64 d) := (hb.cell (p := ⟨w.heap.size, 0, none⟩) (by show w.heap.size < _; omega)).trans c16_0
        have c17_1 : W17.cell? ⟨w.heap.size, 1, none⟩ = some (.slice A xs.length cap) := (hb.cell (p := ⟨w.heap.size, 1, none⟩) (by show w.heap.size < _; omega)).trans c16_1
        have c17_2 : W17.cell? ⟨w.heap.size + 1, 0, none⟩ = some (.int .i64 f) := (hb.cell (p := ⟨w.heap.size + 1, 0, none⟩) (by show w.heap.size + 1 < _; omega)).trans c16_2
        have c17_3 : W17.cell? ⟨w.heap.size + 1, 1, none⟩ = some (.int .i64 t) := (hb.cell (p := ⟨w.heap.size + 1, 1, none⟩) (by show w.heap.size + 1 < _; omega)).trans c16_3
        have c17_4 : W17.cell? ⟨g13, 0, none⟩ = some (.int .i64 dd) := (hb.cell (p := ⟨g13, 0, none⟩) (by show g13 < _; omega)).trans c16_4
        have c17_5 : W17.cell? ⟨g13, 1, none⟩ = some (.slice f6aA LL.length f6ac) := (hb.cell (p := ⟨g13, 1, none⟩) (by show g13 < _; omega)).trans c16_5
        have c17_6 : W17.cell? ⟨W4.heap.size, 0, none⟩ = some (.int .i64 d) := (hb.cell (p := ⟨W4.heap.size, 0, none⟩) (by show W4.heap.size < _; omega)).trans c16_6
        have c17_7 : W17.cell? ⟨W4.heap.size, 1, none⟩ = some (.slice (some ⟨gx, 0, none⟩) xs.length xs.length) := (hb.cell (p := ⟨W4.heap.size, 1, none⟩) (by show W4.heap.size < _; omega)).trans c16_7
        have c17_8 : W17.cell? ⟨g22, 0, none⟩ = some (.int .i64 dd) := (hb.cell (p := ⟨g22, 0, none⟩) (by show g22 < _; omega)).trans c16_8
        have c17_9 : W17.cell? ⟨g22, 1, none⟩ = some (.slice f5bA LL.length f5bc) := (hb.cell (p := ⟨g22, 1, none⟩) (by show g22 < _; omega)).trans c16_9
        have b17_0 : w.heap.size < W17.heap.size := by omega
        have b17_1 : w.heap.size + 1 < W17.heap.size := by omega
        have b17_2 : g13 < W17.heap.size := by omega
        have b17_3 : W4.heap.size < W17.heap.size := by omega
        have b17_4 : g22 < W17.heap.size := by omega
        have R17_0 := hid (FreshA.below (cf := cIv) (sz := 2) (T := 50) (B := V2.heap.size) R16_0.out hk)
        have R17_1 := hid (FreshA.below (cf := cIv) (sz := 2) (T := 50) (B := V3.heap.size) R16_1.out hk)
        have R17_2 := hid (FreshA.below (cf := cIv) (sz := 2) (T := 50) (B := V5.heap.size) R16_2.out hk)
        have hw17 : Below w.heap.size w W17 := Below.trans hw (Below.mono hk (by have := hw.size; omega))
        clear hw hk
        have hw := hw17
        clear hw17
        have hwz := hw.size
        clear c16_0 c16_1 c16_2 c16_3 c16_4 c16_5 c16_6 c16_7 c16_8 c16_9 R16_0 R16_1 R16_2
        clear hb
        clear c17_6
        clear c17_7
        clear R17_1
        go_wp2_with (fail)
        refine wp_named ?_
        intro V18 hV
        have hk : Below W17.heap.size W17 V18 := by rw [hV]; (repeat' (first | with_reducible exact Below.refl _ _ | with_reducible assumption | with_reducible refine Below.setCell ?_ ?_ _ | with_reducible refine Below.drew ?_ | with_reducible refine Below.alloc ?_ ?_ _ | with_reducible refine Below.trans ?_ (Below.mono (by assumption) ?_) | (dsimp only; omega) | (simp; done) | (simp; omega) | omega))
        have hkz18 := hk.size
        have c18_0 : V18.cell? ⟨w.heap.size, 0, none⟩ = some (.int .i64 d) := by rw [hV]; first | exact c17_0 | (first | (simp [go_sem, ↓IntWalk.iteOmega, *]; done) | (simp [go_sem, ↓IntWalk.iteOmega, *]; intros; omega))
        have c18_1 : V18.cell? ⟨w.heap.size, 1, none⟩ = some (.slice A xs.length cap) := by rw [hV]; first | exact c17_1 | (first | (simp [go_sem, ↓IntWalk.iteOmega, *]; done) | (simp [go_sem, ↓IntWalk.iteOmega, *]; intros; omega))
        have c18_2 : V18.cell? ⟨w.heap.size + 1, 0, none⟩ = some (.int .i64 f) := by rw [hV]; first | exact c17_2 | (first | (simp [go_sem, ↓IntWalk.iteOmega, *]; done) | (simp [go_sem, ↓IntWalk.iteOmega, *]; intros; omega))
        have c18_3 : V18.cell? ⟨w.heap.size + 1, 1, none⟩ = some (.int .i64 t) := by rw [hV]; first | exact c17_3 | (first | (simp [go_sem, ↓IntWalk.iteOmega, *]; done) | (simp [go_sem, ↓IntWalk.iteOmega, *]; intros; omega))
        have c18_4 : V18.cell? ⟨g13, 0, none⟩ = some (.int .i64 dd) := by rw [hV]; first | exact c17_4 | (first | (simp [go_sem, ↓IntWalk.iteOmega, *]; done) | (simp [go_sem, ↓IntWalk.iteOmega, *]; intros; omega))
        have c18_5 : V18.cell? ⟨g13, 1, none⟩ = some (.slice f6aA LL.length f6ac) := by rw [hV]; first | exact c17_5 | (first | (simp [go_sem, ↓IntWalk.iteOmega, *]; done) | (simp [go_sem, ↓IntWalk.iteOmega, *]; intros; omega))
        have c18_6 : V18.cell? ⟨g22, 0, none⟩ = some (.int .i64 dd) := by rw [hV]; first | exact c17_8 | (first | (simp [go_sem, ↓IntWalk.iteOmega, *]; done) | (simp [go_sem, ↓IntWalk.iteOmega, *]; intros; omega))
        have c18_7 : V18.cell? ⟨g22, 1, none⟩ = some (.slice f5bA LL.length f5bc) := by rw [hV]; first | exact c17_9 | (first | (simp [go_sem, ↓IntWalk.iteOmega, *]; done) | (simp [go_sem, ↓IntWalk.iteOmega, *]; intros; omega))
        have b18_0 : w.heap.size < V18.heap.size := by omega
        have b18_1 : w.heap.size + 1 < V18.heap.size := by omega
        have b18_2 : g13 < V18.heap.size := by omega
        have b18_3 : W4.heap.size < V18.heap.size := by omega
        have b18_4 : g22 < V18.heap.size := by omega
        have R18_0 := hid (FreshA.below (cf := cIv) (sz := 2) (T := 50) (B := V2.heap.size) R17_0.out hk)
        have R18_1 := hid (FreshA.below (cf := cIv) (sz := 2) (T := 50) (B := V5.heap.size) R17_2.out hk)
        have hw18 : Below w.heap.size w V18 := Below.trans hw (Below.mono hk (by have := hw.size; omega))
        clear hw hk
        have hw := hw18
        clear hw18
        have hwz := hw.size
        clear c17_0 c17_1 c17_2 c17_3 c17_4 c17_5 c17_8 c17_9 R17_0 R17_2
        clear hV
        have hrP := Rds.below hr_xs hw
        refine wp_region_w (n := 9) [7] [8] (FS10_24 d A xs cap f t dd LL bb w) rfl (by kernel_rfl) (fun _ _ d _ _ h => by cases d <;> exact h) ?_ ?_ ?_ ?_ ?_ ?_
        · intro iq
          match iq with
          | 0 | 2 | 3 | 7 => exact Stable.const _
          | 1 => exact FreshBr.stable
          | 4 => exact FreshTb.stable
          | 5 => exact FreshTb.stable
          | 6 => exact FreshAb.stable
          | 8 => exact Stable.fresh _ _
          | n + 9 => exact Stable.const _
        · intro iq hi v w1 hF
          have hcase : iq = 8 := by simpa using hi
          subst hcase
          exact Fresh.ltv hF
        · intro iq hi
          have hcase : iq = 7 := by simpa using hi
          subst hcase
          rfl
        · intro iq o hi hl ho vals w1 hb1 hf
          match iq, hi with
          | 7, _ =>
            injection ho with ho
            subst ho
            clear hl
            simp only [fillA, List.take, List.drop, put_none, Act.put, List.setIfInBounds_toArray, List.set_cons_zero, List.set_cons_succ, Nat.reduceAdd]
            have f5 := hf 5 (by decide) (by kernel_rfl)
            generalize vals 5 = v5 at *
            obtain ⟨f5cA, f5cc, rfl, f5cF⟩ := f5
            exact ⟨_, rfl, .inl ⟨rfl, fun _ => rfl⟩⟩
        · intro iq o hi hl ho vals w1 hb1 hf
          match iq, hi with
          | 0, _ =>
            injection ho with ho
            subst ho
            clear hl
            simp only [fillA, List.take, List.drop, put_none, Act.put, List.setIfInBounds_toArray, List.set_cons_zero, List.set_cons_succ, Nat.reduceAdd]
            clear hf
            have hc1 := cellOf hb1
            have hf1 := frozOf hb1
            have hz1 := sizeOf hb1
            try simp at hz1
            go_wp2_with (fail)
            exact RQ.mk rfl ⟨(by first | rfl | (simp [FS10_24]; done) | (simp [FS10_24, *]; done) | (simp [FS10_24, gotV]; done) | (simp [FS10_24, gotV]; omega)), fun h => absurd h (by decide)⟩ (Below.refl _ _)
          | 1, _ =>
            injection ho with ho
            subst ho
            clear hl
            simp only [fillA, List.take, List.drop, put_none, Act.put, List.setIfInBounds_toArray, List.set_cons_zero, List.set_cons_succ, Nat.reduceAdd]
            have f0 := hf 0 (by decide) (by kernel_rfl)
            generalize vals 0 = v0 at *
            subst f0
            clear hf
            have hc1 := cellOf hb1
            have hf1 := frozOf hb1
            have hz1 := sizeOf hb1
            try simp at hz1
            go_wp2_with (first | (go_at_call 16; refine (c_laws_toBridge _ _ _ _ _ (by first | assumption | exact Rds.below (by assumption) (by (repeat' (first | exact Below.refl _ _ | assumption | refine Below.setCell ?_ ?_ _ | refine Below.drew ?_ | refine Below.alloc ?_ ?_ _ | refine Below.trans ?_ (Below.mono (by assumption) ?_) | (simp; done) | (simp; omega) | omega)))) (by omega)).mono ?_; rintro e w' ⟨g, rfl, hg, ho, hb⟩; have hr := ho.rds; have hlo := ho.lt; have HO := hid ho; clear ho; have hc := cellOf hb; have hf := frozOf hb; have hz := sizeOf hb; try simp at hz))
            exact RQ.mk rfl ⟨⟨_, rfl, (by first | omega | (simp at *; omega)), HO.out⟩, fun h => absurd h (by decide)⟩ (by (repeat' (first | exact Below.refl _ _ | assumption | refine Below.setCell ?_ ?_ _ | refine Below.drew ?_ | refine Below.alloc ?_ ?_ _ | refine Below.trans ?_ (Below.mono (by assumption) ?_) | (simp; done) | (simp; omega) | omega)))
          | 2, _ =>
            injection ho with ho
            subst ho
            clear hl
            simp only [fillA, List.take, List.drop, put_none, Act.put, List.setIfInBounds_toArray, List.set_cons_zero, List.set_cons_succ, Nat.reduceAdd]
            clear hf
            have hc1 := cellOf hb1
            have hf1 := frozOf hb1
            have hz1 := sizeOf hb1
            try simp at hz1
            go_wp2_with (fail)
            exact RQ.mk rfl ⟨(by first | rfl | (simp [FS10_24]; done) | (simp [FS10_24, *]; done) | (simp [FS10_24, gotV]; done) | (simp [FS10_24, gotV]; omega)), fun h => absurd h (by decide)⟩ (Below.refl _ _)
          | 3, _ =>
            injection ho with ho
            subst ho
            clear hl
            simp only [fillA, List.take, List.drop, put_none, Act.put, List.setIfInBounds_toArray, List.set_cons_zero, List.set_cons_succ, Nat.reduceAdd]
            have f2 := hf 2 (by decide) (by kernel_rfl)
            generalize vals 2 = v2 at *
            subst f2
            have f1 := hf 1 (by decide) (by kernel_rfl)
            generalize vals 1 = v1 at *
            obtain ⟨gr31, rfl, hgr31a, hgr31b⟩ := f1
            try simp at hgr31a
            have hgr31r := hgr31b.rds
            have hgr31l := hgr31b.lt
            clear hgr31b
            clear hf
            have hc1 := cellOf hb1
            have hf1 := frozOf hb1
            have hz1 := sizeOf hb1
            try simp at hz1
            go_wp2_with (first | (go_at_call 34; refine (c_laws_toInterval _ _ _ ).mono ?_; rintro e w' ⟨rfl, hb⟩; have hc := cellOf hb; have hf := frozOf hb; have hz := sizeOf hb; try simp at hz))
            exact RQ.mk rfl ⟨(by first | rfl | (simp [FS10_24]; done) | (simp [FS10_24, *]; done) | (simp [FS10_24, gotV]; done) | (simp [FS10_24, gotV]; omega)), fun h => absurd h (by decide)⟩ (by (repeat' (first | exact Below.refl _ _ | assumption | refine Below.setCell ?_ ?_ _ | refine Below.drew ?_ | refine Below.alloc ?_ ?_ _ | refine Below.trans ?_ (Below.mono (by assumption) ?_) | (simp; done) | (simp; omega) | omega)))
          | 4, _ =>
            injection ho with ho
            subst ho
            clear hl
            simp only [fillA, List.take, List.drop, put_none, Act.put, List.setIfInBounds_toArray, List.set_cons_zero, List.set_cons_succ, Nat.reduceAdd]
            have f1 := hf 1 (by decide) (by kernel_rfl)
            generalize vals 1 = v1 at *
            obtain ⟨gr31, rfl, hgr31a, hgr31b⟩ := f1
            try simp at hgr31a
            have hgr31r := hgr31b.rds
            have hgr31l := hgr31b.lt
            clear hgr31b
            have f3 := hf 3 (by decide) (by kernel_rfl)
            generalize vals 3 = v3 at *
            subst f3
            clear hf
            have hc1 := cellOf hb1
            have hf1 := frozOf hb1
            have hz1 := sizeOf hb1
            try simp at hz1
            go_wp2_with (first | (go_at_call 35; refine (c_impl_AddClosure _ _ _ _ _ _ _ (by first | assumption | exact Rds.below (by assumption) (by (repeat' (first | exact Below.refl _ _ | assumption | refine Below.setCell ?_ ?_ _ | refine Below.drew ?_ | refine Below.alloc ?_ ?_ _ | refine Below.trans ?_ (Below.mono (by assumption) ?_) | (simp; done) | (simp; omega) | omega)))) (by omega)).mono ?_; simp only [hAV]; rintro e w' ⟨A9, c9, rfl, hF9, hb⟩; have hc := cellOf hb; have hf := frozOf hb; have hz := sizeOf hb; try simp at hz))
            exact RQ.mk rfl ⟨⟨_, _, rfl, hF9.mono (by first | omega | (simp at *; omega))⟩, fun h => absurd h (by decide)⟩ (by (repeat' (first | exact Below.refl _ _ | assumption | refine Below.setCell ?_ ?_ _ | refine Below.drew ?_ | refine Below.alloc ?_ ?_ _ | refine Below.trans ?_ (Below.mono (by assumption) ?_) | (simp; done) | (simp; omega) | omega)))
          | 5, _ =>
            injection ho with ho
            subst ho
            clear hl
            simp only [fillA, List.take, List.drop, put_none, Act.put, List.setIfInBounds_toArray, List.set_cons_zero, List.set_cons_succ, Nat.reduceAdd]
            have f4 := hf 4 (by decide) (by kernel_rfl)
            generalize vals 4 = v4 at *
            obtain ⟨f4cA, f4cc, rfl, f4cF⟩ := f4
            clear hf
            go_wp2_with (fail)
            exact RQ.mk rfl ⟨⟨_, _, rfl, f4cF⟩, fun h => absurd h (by decide)⟩ (by (repeat' (first | exact Below.refl _ _ | assumption | refine Below.setCell ?_ ?_ _ | refine Below.drew ?_ | refine Below.alloc ?_ ?_ _ | refine Below.trans ?_ (Below.mono (by assumption) ?_) | (simp; done) | (simp; omega) | omega)))
          | 6, _ =>
            injection ho with ho
            subst ho
            clear hl
            simp only [fillA, List.take, List.drop, put_none, Act.put, List.setIfInBounds_toArray, List.set_cons_zero, List.set_cons_succ, Nat.reduceAdd]
            have f5 := hf 5 (by decide) (by kernel_rfl)
            generalize vals 5 = v5 at *
            obtain ⟨f5cA, f5cc, rfl, f5cF⟩ := f5
            clear hf
            go_wp2_with (fail)
            exact RQ.mk rfl ⟨⟨_, _, rfl, f5cF⟩, fun h => absurd h (by decide)⟩ (by (repeat' (first | exact Below.refl _ _ | assumption | refine Below.setCell ?_ ?_ _ | refine Below.drew ?_ | refine Below.alloc ?_ ?_ _ | refine Below.trans ?_ (Below.mono (by assumption) ?_) | (simp; done) | (simp; omega) | omega)))
          | 7, _ => exact absurd hl (by decide)
          | 8, _ =>
            injection ho with ho
            subst ho
            clear hl
            simp only [fillA, List.take, List.drop, put_none, Act.put, List.setIfInBounds_toArray, List.set_cons_zero, List.set_cons_succ, Nat.reduceAdd]
            clear hf
            have hc1 := cellOf hb1
            have hf1 := frozOf hb1
            have hz1 := sizeOf hb1
            try simp at hz1
            go_wp2_with (fail)
            exact RQ.mk rfl ⟨⟨_, rfl, (by first | omega | (simp; omega)), heap_alloc_new _ _⟩, fun _ => Nat.le_refl _⟩ (by (repeat' (first | exact Below.refl _ _ | assumption | refine Below.setCell ?_ ?_ _ | refine Below.drew ?_ | refine Below.alloc ?_ ?_ _ | refine Below.trans ?_ (Below.mono (by assumption) ?_) | (simp; done) | (simp; omega) | omega)))
        · intro vals Zc hb1 hf hd
          simp only [fillA, List.take, List.drop, put_none, Act.put, List.setIfInBounds_toArray, List.set_cons_zero, List.set_cons_succ, Nat.reduceAdd]
          clear hd
          have f0 := hf 0 (by decide)
          generalize vals 0 = v0 at *
          subst f0
          have f1 := hf 1 (by decide)
          generalize vals 1 = v1 at *
          obtain ⟨gr31, rfl, hgr31a, hgr31b⟩ := f1
          try simp at hgr31a
          have hgr31r := hgr31b.rds
          have hgr31l := hgr31b.lt
          have Hgr31 := hid hgr31b
          clear hgr31b
          have f2 := hf 2 (by decide)
          generalize vals 2 = v2 at *
          subst f2
          have f3 := hf 3 (by decide)
          generalize vals 3 = v3 at *
          subst f3
          have f4 := hf 4 (by decide)
          generalize vals 4 = v4 at *
          obtain ⟨f4cA, f4cc, rfl, f4cF⟩ := f4
          have f5 := hf 5 (by decide)
          generalize vals 5 = v5 at *
          obtain ⟨f5cA, f5cc, rfl, f5cF⟩ := f5
          have f6 := hf 6 (by decide)
          generalize vals 6 = v6 at *
          obtain ⟨f6cA, f6cc, rfl, f6cF⟩ := f6
          have f7 := hf 7 (by decide)
          generalize vals 7 = v7 at *
          subst f7
          have f8 := hf 8 (by decide)
          generalize vals 8 = v8 at *
          obtain ⟨g33, rfl, hg33a, hg33b⟩ := f8
          try simp at hg33a
          clear hf
          have hc1 := cellOf hb1
          have hf1 := frozOf hb1
          have hz1 := sizeOf hb1
          try simp at hz1
          have hg33c := Fresh.lt hg33b
          have hg33d := Fresh.cell hg33b
          have hg33e := Fresh.froz hg33b
          have hg33f := Fresh.far hg33b
          have hg33g := Fresh.farz hg33b
          have HBg33 := hid hg33b
          clear hg33b
          have hne := (f6cF).neOb HBg33.out
          have HNEc := hid hne
          have HFX := hid f6cF
          clear hne
          go_wp2_with (fail)
          refine calls_named ?_
          intro V19 hV
          have hn0 : V19.cell? ⟨g33, 0, none⟩ = some (.int .i64 dd) := by rw [hV]; first | (simp [go_sem, ↓IntWalk.iteOmega, *]; done) | (simp [go_sem, ↓IntWalk.iteOmega, *]; intros; omega)
          have hn1 : V19.cell? ⟨g33, 1, none⟩ = some (.slice f6cA LL.length f6cc) := by rw [hV]; first | (simp [go_sem, ↓IntWalk.iteOmega, *]; done) | (simp [go_sem, ↓IntWalk.iteOmega, *]; intros; omega)
          have hnl : g33 < V19.heap.size := by rw [hV]; simpa [World.setCell] using hg33c
          have hnF : FreshA cIv 2 50 V18.heap.size V19 f6cA f6cc LL := by rw [hV]; exact (HFX.out.set_neb (p := ⟨g33, 0, none⟩) HNEc.out _).set_neb (p := ⟨g33, 1, none⟩) HNEc.out _
          have hk : Below V18.heap.size V18 V19 := by rw [hV]; exact Below.setCell (Below.setCell hb1 (by show V18.heap.size ≤ g33; omega) _) (by show V18.heap.size ≤ g33; omega) _
          have hkz19 := hk.size
          have c19_0 : V19.cell? ⟨w.heap.size, 0, none⟩ = some (.int .i64 d) := by rw [hV]; first | (first | (simp [go_sem, ↓IntWalk.iteOmega, *]; done) | (simp [go_sem, ↓IntWalk.iteOmega, *]; intros; omega))
          have c19_1 : V19.cell? ⟨w.heap.size, 1, none⟩ = some (.slice A xs.length cap) := by rw [hV]; first | (first | (simp [go_sem, ↓IntWalk.iteOmega, *]; done) | (simp [go_sem, ↓IntWalk.iteOmega, *]; intros; omega))
          have c19_2 : V19.cell? ⟨w.heap.size + 1, 0, none⟩ = some (.int .i64 f) := by rw [hV]; first | (first | (simp [go_sem, ↓IntWalk.iteOmega, *]; done) | (simp [go_sem, ↓IntWalk.iteOmega, *]; intros; omega))
          have c19_3 : V19.cell? ⟨w.heap.size + 1, 1, none⟩ = some (.int .i64 t) := by rw [hV]; first | (first | (simp [go_sem, ↓IntWalk.iteOmega, *]; done) | (simp [go_sem, ↓IntWalk.iteOmega, *]; intros; omega))
          have c19_4 : V19.cell? ⟨g13, 0, none⟩ = some (.int .i64 dd) := by rw [hV]; first | (first | (simp [go_sem, ↓IntWalk.iteOmega, *]; done) | (simp [go_sem, ↓IntWalk.iteOmega, *]; intros; omega))
          have c19_5 : V19.cell? ⟨g13, 1, none⟩ = some (.slice f6aA LL.length f6ac) := by rw [hV]; first | (first | (simp [go_sem, ↓IntWalk.iteOmega, *]; done) | (simp [go_sem, ↓IntWalk.iteOmega, *]; intros; omega))
          have c19_6 : V19.cell? ⟨g22, 0, none⟩ = some (.int .i64 dd) := by rw [hV]; first | (first | (simp [go_sem, ↓IntWalk.iteOmega, *]; done) | (simp [go_sem, ↓IntWalk.iteOmega, *]; intros; omega))
          have c19_7 : V19.cell? ⟨g22, 1, none⟩ = some (.slice f5bA LL.length f5bc) := by rw [hV]; first | (first | (simp [go_sem, ↓IntWalk.iteOmega, *]; done) | (simp [go_sem, ↓IntWalk.iteOmega, *]; intros; omega))
          have b19_0 : w.heap.size < V19.heap.size := by omega
          have b19_1 : w.heap.size + 1 < V19.heap.size := by omega
          have b19_2 : g13 < V19.heap.size := by omega
          have b19_3 : W4.heap.size < V19.heap.size := by omega
          have b19_4 : g22 < V19.heap.size := by omega
          have R19_0 := hid (FreshA.below (cf := cIv) (sz := 2) (T := 50) (B := V2.heap.size) R18_0.out hk)
          have R19_1 := hid (FreshA.below (cf := cIv) (sz := 2) (T := 50) (B := V5.heap.size) R18_1.out hk)
          have hw19 : Below w.heap.size w V19 := Below.trans hw (Below.mono hk (by have := hw.size; omega))
          clear hw hk
          have hw := hw19
          clear hw19
          have hwz := hw.size
          clear c18_0 c18_1 c18_2 c18_3 c18_4 c18_5 c18_6 c18_7 R18_0 R18_1
          clear hV hb1 hrP
          have d19_8 : V19.cell? ⟨g33, 0, none⟩ = some (.int .i64 dd) := hn0
          have d19_9 : V19.cell? ⟨g33, 1, none⟩ = some (.slice f6cA LL.length f6cc) := hn1
          have e19_5 : g33 < V19.heap.size := hnl
          have S19_2 : Hid (FreshA cIv 2 50 V18.heap.size V19 f6cA f6cc LL) := hid (hnF)
          have loS19_2 := S19_2.out.lo
          have hiS19_2 := S19_2.out.hi
          clear hn0 hn1 hnl hnF HFX
          refine (c_laws_eqBridge _ _ _ _ _ _ _ _ _ S19_2.out.rds R19_0.out.rds (by omega) (by omega)).mono ?_
          rintro e W20 ⟨rfl, hb⟩
          have hk : Below V19.heap.size V19 W20 := hb
          have hkz20 := hk.size
          have c20_0 : W20.cell? ⟨w.heap.size, 0, none⟩ = some (.int .i64 d) := (hb.cell (p := ⟨w.heap.size, 0, none⟩) (by show w.heap.size < _; omega)).trans c19_0
          have c20_1 : W20.cell? ⟨w.heap.size, 1, none⟩ = some (.slice A xs.length cap) := (hb.cell (p := ⟨w.heap.size, 1, none⟩) (by show w.heap.size < _; omega)).trans c19_1
          have c20_2 : W20.cell? ⟨w.heap.size + 1, 0, none⟩ = some (.int .i64 f) := (hb.cell (p := ⟨w.heap.size + 1, 0, none⟩) (by show w.heap.size + 1 < _; omega)).trans c19_2
          have c20_3 : W20.cell? ⟨w.heap.size + 1, 1, none⟩ = some (.int .i64 t) := (hb.cell (p := ⟨w.heap.size + 1, 1, none⟩) (by show w.heap.size + 1 < _; omega)).trans c19_3
          have c20_4 : W20.cell? ⟨g13, 0, none⟩ = some (.int .i64 dd) := (hb.cell (p := ⟨g13, 0, none⟩) (by show g13 < _; omega)).trans c19_4
          have c20_5 : W20.cell? ⟨g13, 1, none⟩ = some (.slice f6aA LL.length f6ac) := (hb.cell (p := ⟨g13, 1, none⟩) (by show g13 < _; omega)).trans c19_5
          have c20_6 : W20.cell? ⟨g22, 0, none⟩ = some (.int .i64 dd) := (hb.cell (p := ⟨g22, 0, none⟩) (by show g22 < _; omega)).trans c19_6
          have c20_7 : W20.cell? ⟨g22, 1, none⟩ = some (.slice f5bA LL.length f5bc) := (hb.cell (p := ⟨g22, 1, none⟩) (by show g22 < _; omega)).trans c19_7
          have c20_8 : W20.cell? ⟨g33, 0, none⟩ = some (.int .i64 dd) := (hb.cell (p := ⟨g33, 0, none⟩) (by show g33 < _; omega)).trans d19_8
          have c20_9 : W20.cell? ⟨g33, 1, none⟩ = some (.slice f6cA LL.length f6cc) := (hb.cell (p := ⟨g33, 1, none⟩) (by show g33 < _; omega)).trans d19_9
          have b20_0 : w.heap.size < W20.heap.size := by omega
          have b20_1 : w.heap.size + 1 < W20.heap.size := by omega
          have b20_2 : g13 < W20.heap.size := by omega
          have b20_3 : W4.heap.size < W20.heap.size := by omega
          have b20_4 : g22 < W20.heap.size := by omega
          have b20_5 : g33 < W20.heap.size := by omega
          have R20_0 := hid (FreshA.below (cf := cIv) (sz := 2) (T := 50) (B := V2.heap.size) R19_0.out hk)
          have R20_1 := hid (FreshA.below (cf := cIv) (sz := 2) (T := 50) (B := V5.heap.size) R19_1.out hk)
          have R20_2 := hid (FreshA.below (cf := cIv) (sz := 2) (T := 50) (B := V18.heap.size) S19_2.out hk)
          have hw20 : Below w.heap.size w W20 := Below.trans hw (Below.mono hk (by have := hw.size; omega))
          clear hw hk
          have hw := hw20
          clear hw20
          have hwz := hw.size
          clear c19_0 c19_1 c19_2 c19_3 c19_4 c19_5 c19_6 c19_7 d19_8 d19_9 R19_0 R19_1 S19_2
          clear hb
          go_wp2_with (fail)
          refine calls_named ?_
          intro V21 hV
          have hk : Below W20.heap.size W20 V21 := by rw [hV]; (repeat' (first | with_reducible exact Below.refl _ _ | with_reducible assumption | with_reducible refine Below.setCell ?_ ?_ _ | with_reducible refine Below.drew ?_ | with_reducible refine Below.alloc ?_ ?_ _ | with_reducible refine Below.trans ?_ (Below.mono (by assumption) ?_) | (dsimp only; omega) | (simp; done) | (simp; omega) | omega))
          have hkz21 := hk.size
          have c21_0 : V21.cell? ⟨w.heap.size, 0, none⟩ = some (.int .i64 d) := by rw [hV]; first | exact c20_0 | (first | (simp [go_sem, ↓IntWalk.iteOmega, *]; done) | (simp [go_sem, ↓IntWalk.iteOmega, *]; intros; omega))
          have c21_1 : V21.cell? ⟨w.heap.size, 1, none⟩ = some (.slice A xs.length cap) := by rw [hV]; first | exact c20_1 | (first | (simp [go_sem, ↓IntWalk.iteOmega, *]; done) | (simp [go_sem, ↓IntWalk.iteOmega, *]; intros; omega))
          have c21_2 : V21.cell? ⟨w.heap.size + 1, 0, none⟩ = some (.int .i64 f) := by rw [hV]; first | exact c20_2 | (first | (simp [go_sem, ↓IntWalk.iteOmega, *]; done) | (simp [go_sem, ↓IntWalk.iteOmega, *]; intros; omega))
          have c21_3 : V21.cell? ⟨w.heap.size + 1, 1, none⟩ = some (.int .i64 t) := by rw [hV]; first | exact c20_3 | (first | (simp [go_sem, ↓IntWalk.iteOmega, *]; done) | (simp [go_sem, ↓IntWalk.iteOmega, *]; intros; omega))
          have c21_4 : V21.cell? ⟨g13, 0, none⟩ = some (.int .i64 dd) := by rw [hV]; first | exact c20_4 | (first | (simp [go_sem, ↓IntWalk.iteOmega, *]; done) | (simp [go_sem, ↓IntWalk.iteOmega, *]; intros; omega))
          have c21_5 : V21.cell? ⟨g13, 1, none⟩ = some (.slice f6aA LL.length f6ac) := by rw [hV]; first | exact c20_5 | (first | (simp [go_sem, ↓IntWalk.iteOmega, *]; done) | (simp [go_sem, ↓IntWalk.iteOmega, *]; intros; omega))
          have c21_6 : V21.cell? ⟨g22, 0, none⟩ = some (.int .i64 dd) := by rw [hV]; first | exact c20_6 | (first | (simp [go_sem, ↓IntWalk.iteOmega, *]; done) | (simp [go_sem, ↓IntWalk.iteOmega, *]; intros; omega))
          have c21_7 : V21.cell? ⟨g22, 1, none⟩ = some (.slice f5bA LL.length f5bc) := by rw [hV]; first | exact c20_7 | (first | (simp [go_sem, ↓IntWalk.iteOmega, *]; done) | (simp [go_sem, ↓IntWalk.iteOmega, *]; intros; omega))
          have c21_8 : V21.cell? ⟨g33, 0, none⟩ = some (.int .i64 dd) := by rw [hV]; first | exact c20_8 | (first | (simp [go_sem, ↓IntWalk.iteOmega, *]; done) | (simp [go_sem, ↓IntWalk.iteOmega, *]; intros; omega))
          have c21_9 : V21.cell? ⟨g33, 1, none⟩ = some (.slice f6cA LL.length f6cc) := by rw [hV]; first | exact c20_9 | (first | (simp [go_sem, ↓IntWalk.iteOmega, *]; done) | (simp [go_sem, ↓IntWalk.iteOmega, *]; intros; omega))
          have b21_0 : w.heap.size < V21.heap.size := by omega
          have b21_1 : w.heap.size + 1 < V21.heap.size := by omega
          have b21_2 : g13 < V21.heap.size := by omega
          have b21_3 : W4.heap.size < V21.heap.size := by omega
          have b21_4 : g22 < V21.heap.size := by omega
          have b21_5 : g33 < V21.heap.size := by omega
          have R21_0 := hid (FreshA.below (cf := cIv) (sz := 2) (T := 50) (B := V2.heap.size) R20_0.out hk)
          have R21_1 := hid (FreshA.below (cf := cIv) (sz := 2) (T := 50) (B := V5.heap.size) R20_1.out hk)
          have R21_2 := hid (FreshA.below (cf := cIv) (sz := 2) (T := 50) (B := V18.heap.size) R20_2.out hk)
          have hw21 : Below w.heap.size w V21 := Below.trans hw (Below.mono hk (by have := hw.size; omega))
          clear hw hk
          have hw := hw21
          clear hw21
          have hwz := hw.size
          clear c20_0 c20_1 c20_2 c20_3 c20_4 c20_5 c20_6 c20_7 c20_8 c20_9 R20_0 R20_1 R20_2
          clear hV
          refine (c_laws_heldBridge dd _ LL.length _ 1 _ R21_1.out.rds (by omega) (by omega)).mono ?_
          rintro e W22 ⟨rfl, hb⟩
          have hk : Below V21.heap.size V21 W22 := hb
          have hkz22 := hk.size
          have c22_0 : W22.cell? ⟨w.heap.size, 0, none⟩ = some (.int .i64 d) := (hb.cell (p := ⟨w.heap.size, 0, none⟩) (by show w.heap.size < _; omega)).trans c21_0
          have c22_1 : W22.cell? ⟨w.heap.size, 1, none⟩ = some (.slice A xs.length cap) := (hb.cell (p := ⟨w.heap.size, 1, none⟩) (by show w.heap.size < _; omega)).trans c21_1
          have c22_2 : W22.cell? ⟨w.heap.size + 1, 0, none⟩ = some (.int .i64 f) := (hb.cell (p := ⟨w.heap.size + 1, 0, none⟩) (by show w.heap.size + 1 < _; omega)).trans c21_2
          have c22_3 : W22.cell? ⟨w.heap.size + 1, 1, none⟩ = some (.int .i64 t) := (hb.cell (p := ⟨w.heap.size + 1, 1, none⟩) (by show w.heap.size + 1 < _; omega)).trans c21_3
          have c22_4 : W22.cell? ⟨g13, 0, none⟩ = some (.int .i64 dd) := (hb.cell (p := ⟨g13, 0, none⟩) (by show g13 < _; omega)).trans c21_4
          have c22_5 : W22.cell? ⟨g13, 1, none⟩ = some (.slice f6aA LL.length f6ac) := (hb.cell (p := ⟨g13, 1, none⟩) (by show g13 < _; omega)).trans c21_5
          have c22_6 : W22.cell? ⟨g22, 0, none⟩ = some (.int .i64 dd) := (hb.cell (p := ⟨g22, 0, none⟩) (by show g22 < _; omega)).trans c21_6
          have c22_7 : W22.cell? ⟨g22, 1, none⟩ = some (.slice f5bA LL.length f5bc) := (hb.cell (p := ⟨g22, 1, none⟩) (by show g22 < _; omega)).trans c21_7
          have c22_8 : W22.cell? ⟨g33, 0, none⟩ = some (.int .i64 dd) := (hb.cell (p := ⟨g33, 0, none⟩) (by show g33 < _; omega)).trans c21_8
          have c22_9 : W22.cell? ⟨g33, 1, none⟩ = some (.slice f6cA LL.length f6cc) := (hb.cell (p := ⟨g33, 1, none⟩) (by show g33 < _; omega)).trans c21_9
          have b22_0 : w.heap.size < W22.heap.size := by omega
          have b22_1 : w.heap.size + 1 < W22.heap.size := by omega
          have b22_2 : g13 < W22.heap.size := by omega
          have b22_3 : W4.heap.size < W22.heap.size := by omega
          have b22_4 : g22 < W22.heap.size := by omega
          have b22_5 : g33 < W22.heap.size := by omega
          have R22_0 := hid (FreshA.below (cf := cIv) (sz := 2) (T := 50) (B := V2.heap.size) R21_0.out hk)
          have R22_1 := hid (FreshA.below (cf := cIv) (sz := 2) (T := 50) (B := V5.heap.size) R21_1.out hk)
          have R22_2 := hid (FreshA.below (cf := cIv) (sz := 2) (T := 50) (B := V18.heap.size) R21_2.out hk)
          have hw22 : Below w.heap.size w W22 := Below.trans hw (Below.mono hk (by have := hw.size; omega))
          clear hw hk
          have hw := hw22
          clear hw22
          have hwz := hw.size
          clear c21_0 c21_1 c21_2 c21_3 c21_4 c21_5 c21_6 c21_7 c21_8 c21_9 R21_0 R21_1 R21_2
          clear hb
          go_wp2_with (fail)
          go_ret
          exact ⟨by first | rfl | exact ret_bool (by simp), by first | exact hw | (repeat' (first | with_reducible exact Below.refl _ _ | with_reducible assumption | with_reducible refine Below.setCell ?_ ?_ _ | with_reducible refine Below.drew ?_ | with_reducible refine Below.alloc ?_ ?_ _ | with_reducible refine Below.trans ?_ (Below.mono (by assumption) ?_) | (dsimp only; omega) | (simp; done) | (simp; omega) | omega))⟩

end Go.Proofs.Yteciijnpfapmhaa
