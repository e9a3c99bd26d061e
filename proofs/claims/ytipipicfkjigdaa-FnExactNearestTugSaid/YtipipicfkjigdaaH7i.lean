import Derived.Test.YtipipicfkjigdaaH6
import Derived.Test.YtipipicfkjigdaaH2i
import Derived.Test.YtipipicfkjigdaaG1i
namespace Go.Proofs.Ytipipicfkjigdaa
set_option linter.unusedSimpArgs false
set_option linter.unusedVariables false
open Go.RowKit

def FS24_7 (i f t p r : Int) (x b : Int × Int × Int) (wr W2 : World) (w W0 : World) (iq : Nat) (v : Value) (w1 : World) : Prop := match iq with
  | 0 => v = .pointer (some ⟨wr.heap.size, 2, none⟩)
  | 1 => v = .int .i64 (x.2.2)
  | 2 => v = .pointer (some ⟨w.heap.size, 3, none⟩)
  | 3 => v = .int .i64 (p)
  | 4 => v = .bool (false)
  | 5 => v = .bool (false)
  | 6 => v = undef
  | 7 => v = undef
  | 8 => v = undef
  | 9 => v = undef
  | 10 => v = undef
  | 11 => v = undef
  | 12 => v = undef
  | 13 => v = undef
  | 14 => v = undef
  | 15 => v = undef
  | 16 => v = undef
  | 17 => v = undef
  | 18 => v = undef
  | 19 => v = undef
  | 20 => v = undef
  | 21 => v = undef
  | 22 => v = undef
  | 23 => v = undef
  | 24 => v = .bool (false)
  | _ => True

def FS24_7_34 (i f t p r : Int) (x b : Int × Int × Int) (wr W2 : World) (w W0 : World) (iq : Nat) (v : Value) (w1 : World) : Prop := match iq with
  | 0 => v = .pointer (some ⟨wr.heap.size, 2, none⟩)
  | 1 => v = .int .i64 (x.2.2)
  | 2 => v = .pointer (some ⟨w.heap.size, 3, none⟩)
  | 3 => v = .int .i64 (p)
  | 4 => v = .bool (true)
  | 5 => v = .bool (true)
  | 6 => v = .pointer (some ⟨W2.heap.size, 0, none⟩)
  | 7 => v = .int .i64 (b.1)
  | 8 => v = .bool (true)
  | 9 => v = .bool (true)
  | 10 => v = undef
  | 11 => v = undef
  | 12 => v = undef
  | 13 => v = undef
  | 14 => v = undef
  | 15 => v = undef
  | 16 => v = undef
  | 17 => v = undef
  | 18 => v = undef
  | 19 => v = undef
  | 20 => v = undef
  | 21 => v = undef
  | 22 => v = undef
  | 23 => v = .bool (true)
  | 24 => v = .bool (true)
  | _ => True

def FS24_7_35 (i f t p r : Int) (x b : Int × Int × Int) (wr W2 : World) (w W0 : World) (iq : Nat) (v : Value) (w1 : World) : Prop := match iq with
  | 0 => v = .pointer (some ⟨wr.heap.size, 2, none⟩)
  | 1 => v = .int .i64 (x.2.2)
  | 2 => v = .pointer (some ⟨w.heap.size, 3, none⟩)
  | 3 => v = .int .i64 (p)
  | 4 => v = .bool (true)
  | 5 => v = .bool (true)
  | 6 => v = .pointer (some ⟨W2.heap.size, 0, none⟩)
  | 7 => v = .int .i64 (b.1)
  | 8 => v = .bool (false)
  | 9 => v = .bool (false)
  | 10 => v = .pointer (some ⟨wr.heap.size, 1, none⟩)
  | 11 => v = .int .i64 (x.2.1)
  | 12 => v = .pointer (some ⟨w.heap.size, 1, none⟩)
  | 13 => v = .int .i64 (f)
  | 14 => v = .int .i64 (x.2.1 - f)
  | 15 => v = .int .i64 (absI (x.2.1 - f))
  | 16 => v = .pointer (some ⟨W2.heap.size, 1, none⟩)
  | 17 => v = .int .i64 (b.2.1)
  | 18 => v = .pointer (some ⟨w.heap.size, 1, none⟩)
  | 19 => v = .int .i64 (f)
  | 20 => v = .int .i64 (b.2.1 - f)
  | 21 => v = .int .i64 (absI (b.2.1 - f))
  | 22 => v = .bool (true)
  | 23 => v = .bool (true)
  | 24 => v = .bool (true)
  | _ => True

def FS24_7_36 (i f t p r : Int) (x b : Int × Int × Int) (wr W2 : World) (w W0 : World) (iq : Nat) (v : Value) (w1 : World) : Prop := match iq with
  | 0 => v = .pointer (some ⟨wr.heap.size, 2, none⟩)
  | 1 => v = .int .i64 (x.2.2)
  | 2 => v = .pointer (some ⟨w.heap.size, 3, none⟩)
  | 3 => v = .int .i64 (p)
  | 4 => v = .bool (true)
  | 5 => v = .bool (true)
  | 6 => v = .pointer (some ⟨W2.heap.size, 0, none⟩)
  | 7 => v = .int .i64 (b.1)
  | 8 => v = .bool (false)
  | 9 => v = .bool (false)
  | 10 => v = .pointer (some ⟨wr.heap.size, 1, none⟩)
  | 11 => v = .int .i64 (x.2.1)
  | 12 => v = .pointer (some ⟨w.heap.size, 1, none⟩)
  | 13 => v = .int .i64 (f)
  | 14 => v = .int .i64 (x.2.1 - f)
  | 15 => v = .int .i64 (absI (x.2.1 - f))
  | 16 => v = .pointer (some ⟨W2.heap.size, 1, none⟩)
  | 17 => v = .int .i64 (b.2.1)
  | 18 => v = .pointer (some ⟨w.heap.size, 1, none⟩)
  | 19 => v = .int .i64 (f)
  | 20 => v = .int .i64 (b.2.1 - f)
  | 21 => v = .int .i64 (absI (b.2.1 - f))
  | 22 => v = .bool (false)
  | 23 => v = .bool (false)
  | 24 => v = .bool (false)
  | _ => True

set_option maxRecDepth 100000 in
set_option maxHeartbeats 4000000 in
theorem c_impl_NearestTug (A : Option Addr) (xs : List (Int × Int × Int)) (cap : Nat) (i f t p r : Int) (w : World) (hx : Rds cTug 3 w A xs) (hn : xs.length ≤ 9223372036854775807) :
    Calls Try.prog 24 #[.slice A xs.length cap, .agg #[.int .i64 i, .int .i64 f, .int .i64 t, .int .i64 p, .int .i64 r]] w fun e w' => e = .returned (.tuple #[.int .i64 (nearV xs i f t p r).1, .bool (nearV xs i f t p r).2]) ∧ Below w.heap.size w w' := by
  by_cases hs0 : vB tugOk tugLt 4 xs = true
  rotate_left
  · have hn : vB tugOk tugLt 4 xs = false := Bool.eq_false_iff.2 hs0
    have HV := hid (show nearV xs i f t p r = (0, false) by simp [nearV, hn])
    clear hs0
    go_enter Try.func24, Try.ntmps24
    go_wp2_with (first | (go_at_call 15; refine (c_impl_AreTugs _ _ _ _ (by first | assumption | exact Rds.below hx (by (repeat' (first | exact Below.refl _ _ | assumption | refine Below.setCell ?_ ?_ _ | refine Below.drew ?_ | refine Below.alloc ?_ ?_ _ | refine Below.trans ?_ (Below.mono (by assumption) ?_) | (simp; done) | (simp; omega) | omega)))) (by omega)).mono ?_; rintro e w' ⟨rfl, hb⟩; have hc := cellOf hb; have hf := frozOf hb; have hz := sizeOf hb; try simp at hz) | (go_at_call 50; refine (c_impl_isTugJob _ _ _ _ _ _ ).mono ?_; rintro e w' ⟨rfl, hb⟩; have hc := cellOf hb; have hf := frozOf hb; have hz := sizeOf hb; try simp at hz))
    all_goals go_ret2
    all_goals exact ⟨by first | (rw [HV.out]; done) | (rw [HV.out]; rfl), by (repeat' (first | exact Below.refl _ _ | assumption | refine Below.setCell ?_ ?_ _ | refine Below.drew ?_ | refine Below.alloc ?_ ?_ _ | refine Below.trans ?_ (Below.mono (by assumption) ?_) | (simp; done) | (simp; omega) | omega))⟩
  by_cases hs1 : jobB i f t p r = true
  rotate_left
  · have hn : jobB i f t p r = false := Bool.eq_false_iff.2 hs1
    have HV := hid (show nearV xs i f t p r = (0, false) by simp [nearV, hn])
    clear hs1
    go_enter Try.func24, Try.ntmps24
    go_wp2_with (first | (go_at_call 15; refine (c_impl_AreTugs _ _ _ _ (by first | assumption | exact Rds.below hx (by (repeat' (first | exact Below.refl _ _ | assumption | refine Below.setCell ?_ ?_ _ | refine Below.drew ?_ | refine Below.alloc ?_ ?_ _ | refine Below.trans ?_ (Below.mono (by assumption) ?_) | (simp; done) | (simp; omega) | omega)))) (by omega)).mono ?_; rintro e w' ⟨rfl, hb⟩; have hc := cellOf hb; have hf := frozOf hb; have hz := sizeOf hb; try simp at hz) | (go_at_call 50; refine (c_impl_isTugJob _ _ _ _ _ _ ).mono ?_; rintro e w' ⟨rfl, hb⟩; have hc := cellOf hb; have hf := frozOf hb; have hz := sizeOf hb; try simp at hz))
    all_goals go_ret2
    all_goals exact ⟨by first | (rw [HV.out]; done) | (rw [HV.out]; rfl), by (repeat' (first | exact Below.refl _ _ | assumption | refine Below.setCell ?_ ?_ _ | refine Below.drew ?_ | refine Below.alloc ?_ ?_ _ | refine Below.trans ?_ (Below.mono (by assumption) ?_) | (simp; done) | (simp; omega) | omega))⟩
  have hjb := jobB_bd hs1
  have HV := hid (show nearV xs i f t p r = ((nearF xs f p).1, decide (0 < (nearF xs f p).1)) by simp [nearV, hs0, hs1])
  go_enter Try.func24, Try.ntmps24
  go_wp2_with (fail)
  refine (c_impl_AreTugs _ _ _ _ (hx.below (by (repeat' (first | exact Below.refl _ _ | assumption | refine Below.setCell ?_ ?_ _ | refine Below.drew ?_ | refine Below.alloc ?_ ?_ _ | refine Below.trans ?_ (Below.mono (by assumption) ?_) | (simp; done) | (simp; omega) | omega)))) (by omega)).mono ?_
  rintro e W1 ⟨rfl, hb1⟩
  have hc1 := cellOf hb1
  have hf1 := frozOf hb1
  have hz1 := sizeOf hb1
  try simp at hz1
  simp only [hs0]
  go_wp2_with (fail)
  refine (c_impl_isTugJob _ _ _ _ _ _).mono ?_
  rintro e W2 ⟨rfl, hb2⟩
  have hc2 := cellOf hb2
  have hf2 := frozOf hb2
  have hz2 := sizeOf hb2
  try simp at hz2
  simp only [hs1]
  go_wp2_with (fail)
  go_loopw [20] (fun v wr => ∃ (k : Nat) (b : Int × Int × Int), k ≤ xs.length ∧ v = .int .i64 k ∧ b = (xs.take k).foldl (nearS f p) (0, 0, 0) ∧ nearOk b
     ∧ wr.cell? ⟨W2.heap.size, 0, none⟩ = some (.int .i64 b.1) ∧ wr.cell? ⟨W2.heap.size, 1, none⟩ = some (.int .i64 b.2.1) ∧ wr.cell? ⟨W2.heap.size, 2, none⟩ = some (.int .i64 b.2.2) ∧ (∀ o, wr.frozen? ⟨W2.heap.size, o, none⟩ = false)
     ∧ wr.cell? ⟨w.heap.size, 1, none⟩ = some (.int .i64 f) ∧ wr.cell? ⟨w.heap.size, 3, none⟩ = some (.int .i64 p) ∧ W2.heap.size + 1 ≤ wr.heap.size ∧ Below w.heap.size w wr) (fun v _ => xs.length - (intOf v).toNat)
  case atStart =>
    refine ⟨0, (0, 0, 0), Nat.zero_le _, rfl, rfl, by simp [nearOk], ?_, ?_, ?_, ?_, ?_, ?_, ?_, by (repeat' (first | exact Below.refl _ _ | assumption | refine Below.setCell ?_ ?_ _ | refine Below.drew ?_ | refine Below.alloc ?_ ?_ _ | refine Below.trans ?_ (Below.mono (by assumption) ?_) | (simp; done) | (simp; omega) | omega))⟩
    all_goals first | (simp [go_sem, ↓IntWalk.iteOmega, *]; done) | (intro o; simp [go_sem, ↓IntWalk.iteOmega, *]; done) | (simp; omega) | (simp [go_sem, ↓IntWalk.iteOmega, *]; omega)
  case round =>
    obtain ⟨k, b, hk, rfl, hbe, hbo, q0, q1, q2, qz, hf0, hp0, hzz, hbr⟩ := hrel
    have hc := cellOf hbr
    have hf := frozOf hbr
    have hz := sizeOf hbr
    clear hc1 hf1 hc2 hf2
    have q0' : far _ _ _ = _ := q0
    have q1' : far _ _ _ = _ := q1
    have q2' : far _ _ _ = _ := q2
    have hf0' : far _ _ _ = _ := hf0
    have hp0' : far _ _ _ = _ := hp0
    have qz' : ∀ o, farz wr W2.heap.size o = false := qz
    by_cases hlt : k < xs.length
    · obtain ⟨bx, ox, rfl, hbx, hcx⟩ := hx k xs[k] (List.getElem?_eq_getElem hlt)
      have hx0 := hcx 0 _ rfl
      have hx1 := hcx 1 _ rfl
      have hx2 := hcx 2 _ rfl
      simp only [Nat.add_zero] at hx0
      have HS := hid (foldl_snoc (nearS f p) (0, 0, 0) xs k hlt)
      have hgo := vB_at hs0 k hlt
      have HB := hid hbe
      have HO := hid (nearS_ok (f := f) (p := p) hbo hgo)
      have hto := tugOk_bd hgo
      unfold nearOk at hbo
      clear hx hcx hbe hgo
      generalize xs[k] = x at *
      by_cases hq1 : p ≤ x.2.2
      rotate_left
      · have HQ := hid (show ¬ (p ≤ x.2.2 ∧ (b.1 = 0 ∨ absI (x.2.1 - f) < absI (b.2.1 - f))) from fun h => hq1 h.1)
        go_wp2_with (fail)
        refine wp_region_w (n := 25) [] [] (FS24_7 i f t p r x b wr W2 w) rfl (by kernel_rfl) (fun _ _ d _ _ h => by cases d <;> exact h) ?_ ?_ ?_ ?_ ?_ ?_
        · intro iq
          match iq with
          | 0 | 1 | 2 | 3 | 4 | 5 | 6 | 7 | 8 | 9 | 10 | 11 | 12 | 13 | 14 | 15 | 16 | 17 | 18 | 19 | 20 | 21 | 22 | 23 | 24 => exact Stable.const _
          | n + 25 => exact Stable.const _
        · intro iq hi
          exact absurd hi (by simp)
        · intro iq hi
          exact absurd hi (by simp)
        · intro iq o hi hl ho vals w1 hb1 hf
          exact absurd hl (by simp)
        · intro iq o hi hl ho vals w1 hb1 hf
          match iq, hi with
          | 0, _ =>
            injection ho with ho
            subst ho
            clear hl
            simp only [fillA, List.take, List.drop, put_none, Act.put, List.setIfInBounds_toArray, List.set_cons_zero, List.set_cons_succ, Nat.reduceAdd]
            clear hf
            go_wp2_with (fail)
            exact RQ.mk rfl ⟨(by first | rfl | (simp [FS24_7]; done) | (simp [FS24_7, *]; done) | (simp [FS24_7, gotV]; done) | (simp [FS24_7, gotV]; omega)), fun h => absurd h (by decide)⟩ (Below.refl _ _)
          | 1, _ =>
            injection ho with ho
            subst ho
            clear hl
            simp only [fillA, List.take, List.drop, put_none, Act.put, List.setIfInBounds_toArray, List.set_cons_zero, List.set_cons_succ, Nat.reduceAdd]
            have f0 := hf 0 (by decide) (by kernel_rfl)
            generalize vals 0 = v0 at *
            subst f0
            clear hf
            have hc1 := cellOf hb1
            have hf1 := frozOf hb1
            have hz1 := sizeOf hb1
            try simp at hz1
            go_wp2_with (fail)
            exact RQ.mk rfl ⟨(by first | rfl | (simp [FS24_7]; done) | (simp [FS24_7, *]; done) | (simp [FS24_7, gotV]; done) | (simp [FS24_7, gotV]; omega)), fun h => absurd h (by decide)⟩ (Below.refl _ _)
          | 2, _ =>
            injection ho with ho
            subst ho
            clear hl
            simp only [fillA, List.take, List.drop, put_none, Act.put, List.setIfInBounds_toArray, List.set_cons_zero, List.set_cons_succ, Nat.reduceAdd]
            clear hf
            go_wp2_with (fail)
            exact RQ.mk rfl ⟨(by first | rfl | (simp [FS24_7]; done) | (simp [FS24_7, *]; done) | (simp [FS24_7, gotV]; done) | (simp [FS24_7, gotV]; omega)), fun h => absurd h (by decide)⟩ (Below.refl _ _)
          | 3, _ =>
            injection ho with ho
            subst ho
            clear hl
            simp only [fillA, List.take, List.drop, put_none, Act.put, List.setIfInBounds_toArray, List.set_cons_zero, List.set_cons_succ, Nat.reduceAdd]
            have f2 := hf 2 (by decide) (by kernel_rfl)
            generalize vals 2 = v2 at *
            subst f2
            clear hf
            have hc1 := cellOf hb1
            have hf1 := frozOf hb1
            have hz1 := sizeOf hb1
            try simp at hz1
            go_wp2_with (fail)
            exact RQ.mk rfl ⟨(by first | rfl | (simp [FS24_7]; done) | (simp [FS24_7, *]; done) | (simp [FS24_7, gotV]; done) | (simp [FS24_7, gotV]; omega)), fun h => absurd h (by decide)⟩ (Below.refl _ _)
          | 4, _ =>
            injection ho with ho
            subst ho
            clear hl
            simp only [fillA, List.take, List.drop, put_none, Act.put, List.setIfInBounds_toArray, List.set_cons_zero, List.set_cons_succ, Nat.reduceAdd]
            have f1 := hf 1 (by decide) (by kernel_rfl)
            generalize vals 1 = v1 at *
            subst f1
            have f3 := hf 3 (by decide) (by kernel_rfl)
            generalize vals 3 = v3 at *
            subst f3
            clear hf
            go_wp2_with (fail)
            exact RQ.mk rfl ⟨(by first | rfl | (simp [FS24_7]; done) | (simp [FS24_7, *]; done) | (simp [FS24_7, gotV]; done) | (simp [FS24_7, gotV]; omega)), fun h => absurd h (by decide)⟩ (Below.refl _ _)
          | 5, _ =>
            injection ho with ho
            subst ho
            clear hl
            simp only [fillA, List.take, List.drop, put_none, Act.put, List.setIfInBounds_toArray, List.set_cons_zero, List.set_cons_succ, Nat.reduceAdd]
            have f4 := hf 4 (by decide) (by kernel_rfl)
            generalize vals 4 = v4 at *
            subst f4
            clear hf
            go_wp2_with (fail)
            exact RQ.mk rfl ⟨(by first | rfl | (simp [FS24_7]; done) | (simp [FS24_7, *]; done) | (simp [FS24_7, gotV]; done) | (simp [FS24_7, gotV]; omega)), fun h => absurd h (by decide)⟩ (Below.refl _ _)
          | 6, _ =>
            injection ho with ho
            subst ho
            clear hl
            simp only [fillA, List.take, List.drop, put_none, Act.put, List.setIfInBounds_toArray, List.set_cons_zero, List.set_cons_succ, Nat.reduceAdd]
            have f5 := hf 5 (by decide) (by kernel_rfl)
            generalize vals 5 = v5 at *
            subst f5
            clear hf
            go_wp2_with (fail)
            exact RQ.mk rfl ⟨(by first | rfl | (simp [FS24_7]; done) | (simp [FS24_7, *]; done) | (simp [FS24_7, gotV]; done) | (simp [FS24_7, gotV]; omega)), fun h => absurd h (by decide)⟩ (Below.refl _ _)
          | 7, _ =>
            injection ho with ho
            subst ho
            clear hl
            simp only [fillA, List.take, List.drop, put_none, Act.put, List.setIfInBounds_toArray, List.set_cons_zero, List.set_cons_succ, Nat.reduceAdd]
            have f6 := hf 6 (by decide) (by kernel_rfl)
            generalize vals 6 = v6 at *
            subst f6
            have f5 := hf 5 (by decide) (by kernel_rfl)
            generalize vals 5 = v5 at *
            subst f5
            clear hf
            go_wp2_with (fail)
            exact RQ.mk rfl ⟨(by first | rfl | (simp [FS24_7]; done) | (simp [FS24_7, *]; done) | (simp [FS24_7, gotV]; done) | (simp [FS24_7, gotV]; omega)), fun h => absurd h (by decide)⟩ (Below.refl _ _)
          | 8, _ =>
            injection ho with ho
            subst ho
            clear hl
            simp only [fillA, List.take, List.drop, put_none, Act.put, List.setIfInBounds_toArray, List.set_cons_zero, List.set_cons_succ, Nat.reduceAdd]
            have f7 := hf 7 (by decide) (by kernel_rfl)
            generalize vals 7 = v7 at *
            subst f7
            have f5 := hf 5 (by decide) (by kernel_rfl)
            generalize vals 5 = v5 at *
            subst f5
            clear hf
            go_wp2_with (fail)
            exact RQ.mk rfl ⟨(by first | rfl | (simp [FS24_7]; done) | (simp [FS24_7, *]; done) | (simp [FS24_7, gotV]; done) | (simp [FS24_7, gotV]; omega)), fun h => absurd h (by decide)⟩ (Below.refl _ _)
          | 9, _ =>
            injection ho with ho
            subst ho
            clear hl
            simp only [fillA, List.take, List.drop, put_none, Act.put, List.setIfInBounds_toArray, List.set_cons_zero, List.set_cons_succ, Nat.reduceAdd]
            have f8 := hf 8 (by decide) (by kernel_rfl)
            generalize vals 8 = v8 at *
            subst f8
            have f5 := hf 5 (by decide) (by kernel_rfl)
            generalize vals 5 = v5 at *
            subst f5
            clear hf
            go_wp2_with (fail)
            exact RQ.mk rfl ⟨(by first | rfl | (simp [FS24_7]; done) | (simp [FS24_7, *]; done) | (simp [FS24_7, gotV]; done) | (simp [FS24_7, gotV]; omega)), fun h => absurd h (by decide)⟩ (Below.refl _ _)
          | 10, _ =>
            injection ho with ho
            subst ho
            clear hl
            simp only [fillA, List.take, List.drop, put_none, Act.put, List.setIfInBounds_toArray, List.set_cons_zero, List.set_cons_succ, Nat.reduceAdd]
            have f9 := hf 9 (by decide) (by kernel_rfl)
            generalize vals 9 = v9 at *
            subst f9
            clear hf
            go_wp2_with (fail)
            exact RQ.mk rfl ⟨(by first | rfl | (simp [FS24_7]; done) | (simp [FS24_7, *]; done) | (simp [FS24_7, gotV]; done) | (simp [FS24_7, gotV]; omega)), fun h => absurd h (by decide)⟩ (Below.refl _ _)
          | 11, _ =>
            injection ho with ho
            subst ho
            clear hl
            simp only [fillA, List.take, List.drop, put_none, Act.put, List.setIfInBounds_toArray, List.set_cons_zero, List.set_cons_succ, Nat.reduceAdd]
            have f10 := hf 10 (by decide) (by kernel_rfl)
            generalize vals 10 = v10 at *
            subst f10
            have f9 := hf 9 (by decide) (by kernel_rfl)
            generalize vals 9 = v9 at *
            subst f9
            clear hf
            go_wp2_with (fail)
            exact RQ.mk rfl ⟨(by first | rfl | (simp [FS24_7]; done) | (simp [FS24_7, *]; done) | (simp [FS24_7, gotV]; done) | (simp [FS24_7, gotV]; omega)), fun h => absurd h (by decide)⟩ (Below.refl _ _)
          | 12, _ =>
            injection ho with ho
            subst ho
            clear hl
            simp only [fillA, List.take, List.drop, put_none, Act.put, List.setIfInBounds_toArray, List.set_cons_zero, List.set_cons_succ, Nat.reduceAdd]
            have f9 := hf 9 (by decide) (by kernel_rfl)
            generalize vals 9 = v9 at *
            subst f9
            clear hf
            go_wp2_with (fail)
            exact RQ.mk rfl ⟨(by first | rfl | (simp [FS24_7]; done) | (simp [FS24_7, *]; done) | (simp [FS24_7, gotV]; done) | (simp [FS24_7, gotV]; omega)), fun h => absurd h (by decide)⟩ (Below.refl _ _)
          | 13, _ =>
            injection ho with ho
            subst ho
            clear hl
            simp only [fillA, List.take, List.drop, put_none, Act.put, List.setIfInBounds_toArray, List.set_cons_zero, List.set_cons_succ, Nat.reduceAdd]
            have f12 := hf 12 (by decide) (by kernel_rfl)
            generalize vals 12 = v12 at *
            subst f12
            have f9 := hf 9 (by decide) (by kernel_rfl)
            generalize vals 9 = v9 at *
            subst f9
            clear hf
            go_wp2_with (fail)
            exact RQ.mk rfl ⟨(by first | rfl | (simp [FS24_7]; done) | (simp [FS24_7, *]; done) | (simp [FS24_7, gotV]; done) | (simp [FS24_7, gotV]; omega)), fun h => absurd h (by decide)⟩ (Below.refl _ _)
          | 14, _ =>
            injection ho with ho
            subst ho
            clear hl
            simp only [fillA, List.take, List.drop, put_none, Act.put, List.setIfInBounds_toArray, List.set_cons_zero, List.set_cons_succ, Nat.reduceAdd]
            have f11 := hf 11 (by decide) (by kernel_rfl)
            generalize vals 11 = v11 at *
            subst f11
            have f13 := hf 13 (by decide) (by kernel_rfl)
            generalize vals 13 = v13 at *
            subst f13
            have f9 := hf 9 (by decide) (by kernel_rfl)
            generalize vals 9 = v9 at *
            subst f9
            clear hf
            go_wp2_with (fail)
            exact RQ.mk rfl ⟨(by first | rfl | (simp [FS24_7]; done) | (simp [FS24_7, *]; done) | (simp [FS24_7, gotV]; done) | (simp [FS24_7, gotV]; omega)), fun h => absurd h (by decide)⟩ (Below.refl _ _)
          | 15, _ =>
            injection ho with ho
            subst ho
            clear hl
            simp only [fillA, List.take, List.drop, put_none, Act.put, List.setIfInBounds_toArray, List.set_cons_zero, List.set_cons_succ, Nat.reduceAdd]
            have f14 := hf 14 (by decide) (by kernel_rfl)
            generalize vals 14 = v14 at *
            subst f14
            have f9 := hf 9 (by decide) (by kernel_rfl)
            generalize vals 9 = v9 at *
            subst f9
            clear hf
            go_wp2_with (first | (go_at_call 54; refine (c_absI _ _ (by omega)).mono ?_; rintro e w' ⟨rfl, hb⟩; have hc := cellOf hb; have hf := frozOf hb; have hz := sizeOf hb; try simp at hz))
            exact RQ.mk rfl ⟨(by first | rfl | (simp [FS24_7]; done) | (simp [FS24_7, *]; done) | (simp [FS24_7, gotV]; done) | (simp [FS24_7, gotV]; omega)), fun h => absurd h (by decide)⟩ (Below.refl _ _)
          | 16, _ =>
            injection ho with ho
            subst ho
            clear hl
            simp only [fillA, List.take, List.drop, put_none, Act.put, List.setIfInBounds_toArray, List.set_cons_zero, List.set_cons_succ, Nat.reduceAdd]
            have f9 := hf 9 (by decide) (by kernel_rfl)
            generalize vals 9 = v9 at *
            subst f9
            clear hf
            go_wp2_with (fail)
            exact RQ.mk rfl ⟨(by first | rfl | (simp [FS24_7]; done) | (simp [FS24_7, *]; done) | (simp [FS24_7, gotV]; done) | (simp [FS24_7, gotV]; omega)), fun h => absurd h (by decide)⟩ (Below.refl _ _)
          | 17, _ =>
            injection ho with ho
            subst ho
            clear hl
            simp only [fillA, List.take, List.drop, put_none, Act.put, List.setIfInBounds_toArray, List.set_cons_zero, List.set_cons_succ, Nat.reduceAdd]
            have f16 := hf 16 (by decide) (by kernel_rfl)
            generalize vals 16 = v16 at *
            subst f16
            have f9 := hf 9 (by decide) (by kernel_rfl)
            generalize vals 9 = v9 at *
            subst f9
            clear hf
            go_wp2_with (fail)
            exact RQ.mk rfl ⟨(by first | rfl | (simp [FS24_7]; done) | (simp [FS24_7, *]; done) | (simp [FS24_7, gotV]; done) | (simp [FS24_7, gotV]; omega)), fun h => absurd h (by decide)⟩ (Below.refl _ _)
          | 18, _ =>
            injection ho with ho
            subst ho
            clear hl
            simp only [fillA, List.take, List.drop, put_none, Act.put, List.setIfInBounds_toArray, List.set_cons_zero, List.set_cons_succ, Nat.reduceAdd]
            have f9 := hf 9 (by decide) (by kernel_rfl)
            generalize vals 9 = v9 at *
            subst f9
            clear hf
            go_wp2_with (fail)
            exact RQ.mk rfl ⟨(by first | rfl | (simp [FS24_7]; done) | (simp [FS24_7, *]; done) | (simp [FS24_7, gotV]; done) | (simp [FS24_7, gotV]; omega)), fun h => absurd h (by decide)⟩ (Below.refl _ _)
          | 19, _ =>
            injection ho with ho
            subst ho
            clear hl
            simp only [fillA, List.take, List.drop, put_none, Act.put, List.setIfInBounds_toArray, List.set_cons_zero, List.set_cons_succ, Nat.reduceAdd]
            have f18 := hf 18 (by decide) (by kernel_rfl)
            generalize vals 18 = v18 at *
            subst f18
            have f9 := hf 9 (by decide) (by kernel_rfl)
            generalize vals 9 = v9 at *
            subst f9
            clear hf
            go_wp2_with (fail)
            exact RQ.mk rfl ⟨(by first | rfl | (simp [FS24_7]; done) | (simp [FS24_7, *]; done) | (simp [FS24_7, gotV]; done) | (simp [FS24_7, gotV]; omega)), fun h => absurd h (by decide)⟩ (Below.refl _ _)
          | 20, _ =>
            injection ho with ho
            subst ho
            clear hl
            simp only [fillA, List.take, List.drop, put_none, Act.put, List.setIfInBounds_toArray, List.set_cons_zero, List.set_cons_succ, Nat.reduceAdd]
            have f17 := hf 17 (by decide) (by kernel_rfl)
            generalize vals 17 = v17 at *
            subst f17
            have f19 := hf 19 (by decide) (by kernel_rfl)
            generalize vals 19 = v19 at *
            subst f19
            have f9 := hf 9 (by decide) (by kernel_rfl)
            generalize vals 9 = v9 at *
            subst f9
            clear hf
            go_wp2_with (fail)
            exact RQ.mk rfl ⟨(by first | rfl | (simp [FS24_7]; done) | (simp [FS24_7, *]; done) | (simp [FS24_7, gotV]; done) | (simp [FS24_7, gotV]; omega)), fun h => absurd h (by decide)⟩ (Below.refl _ _)
          | 21, _ =>
            injection ho with ho
            subst ho
            clear hl
            simp only [fillA, List.take, List.drop, put_none, Act.put, List.setIfInBounds_toArray, List.set_cons_zero, List.set_cons_succ, Nat.reduceAdd]
            have f20 := hf 20 (by decide) (by kernel_rfl)
            generalize vals 20 = v20 at *
            subst f20
            have f15 := hf 15 (by decide) (by kernel_rfl)
            generalize vals 15 = v15 at *
            subst f15
            have f9 := hf 9 (by decide) (by kernel_rfl)
            generalize vals 9 = v9 at *
            subst f9
            clear hf
            go_wp2_with (first | (go_at_call 54; refine (c_absI _ _ (by omega)).mono ?_; rintro e w' ⟨rfl, hb⟩; have hc := cellOf hb; have hf := frozOf hb; have hz := sizeOf hb; try simp at hz))
            exact RQ.mk rfl ⟨(by first | rfl | (simp [FS24_7]; done) | (simp [FS24_7, *]; done) | (simp [FS24_7, gotV]; done) | (simp [FS24_7, gotV]; omega)), fun h => absurd h (by decide)⟩ (Below.refl _ _)
          | 22, _ =>
            injection ho with ho
            subst ho
            clear hl
            simp only [fillA, List.take, List.drop, put_none, Act.put, List.setIfInBounds_toArray, List.set_cons_zero, List.set_cons_succ, Nat.reduceAdd]
            have f15 := hf 15 (by decide) (by kernel_rfl)
            generalize vals 15 = v15 at *
            subst f15
            have f21 := hf 21 (by decide) (by kernel_rfl)
            generalize vals 21 = v21 at *
            subst f21
            have f9 := hf 9 (by decide) (by kernel_rfl)
            generalize vals 9 = v9 at *
            subst f9
            clear hf
            go_wp2_with (fail)
            exact RQ.mk rfl ⟨(by first | rfl | (simp [FS24_7]; done) | (simp [FS24_7, *]; done) | (simp [FS24_7, gotV]; done) | (simp [FS24_7, gotV]; omega)), fun h => absurd h (by decide)⟩ (Below.refl _ _)
          | 23, _ =>
            injection ho with ho
            subst ho
            clear hl
            simp only [fillA, List.take, List.drop, put_none, Act.put, List.setIfInBounds_toArray, List.set_cons_zero, List.set_cons_succ, Nat.reduceAdd]
            have f9 := hf 9 (by decide) (by kernel_rfl)
            generalize vals 9 = v9 at *
            subst f9
            have f22 := hf 22 (by decide) (by kernel_rfl)
            generalize vals 22 = v22 at *
            subst f22
            have f5 := hf 5 (by decide) (by kernel_rfl)
            generalize vals 5 = v5 at *
            subst f5
            clear hf
            go_wp2_with (fail)
            exact RQ.mk rfl ⟨(by first | rfl | (simp [FS24_7]; done) | (simp [FS24_7, *]; done) | (simp [FS24_7, gotV]; done) | (simp [FS24_7, gotV]; omega)), fun h => absurd h (by decide)⟩ (Below.refl _ _)
          | 24, _ =>
            injection ho with ho
            subst ho
            clear hl
            simp only [fillA, List.take, List.drop, put_none, Act.put, List.setIfInBounds_toArray, List.set_cons_zero, List.set_cons_succ, Nat.reduceAdd]
            have f5 := hf 5 (by decide) (by kernel_rfl)
            generalize vals 5 = v5 at *
            subst f5
            have f23 := hf 23 (by decide) (by kernel_rfl)
            generalize vals 23 = v23 at *
            subst f23
            clear hf
            go_wp2_with (fail)
            exact RQ.mk rfl ⟨(by first | rfl | (simp [FS24_7]; done) | (simp [FS24_7, *]; done) | (simp [FS24_7, gotV]; done) | (simp [FS24_7, gotV]; omega)), fun h => absurd h (by decide)⟩ (Below.refl _ _)
          | m + 25, h => exact absurd h (by omega)
        · intro vals w1 hb1 hf hd
          simp only [fillA, List.take, List.drop, put_none, Act.put, List.setIfInBounds_toArray, List.set_cons_zero, List.set_cons_succ, Nat.reduceAdd]
          clear hd
          have f0 := hf 0 (by decide)
          generalize vals 0 = v0 at *
          subst f0
          have f1 := hf 1 (by decide)
          generalize vals 1 = v1 at *
          subst f1
          have f2 := hf 2 (by decide)
          generalize vals 2 = v2 at *
          subst f2
          have f3 := hf 3 (by decide)
          generalize vals 3 = v3 at *
          subst f3
          have f4 := hf 4 (by decide)
          generalize vals 4 = v4 at *
          subst f4
          have f5 := hf 5 (by decide)
          generalize vals 5 = v5 at *
          subst f5
          have f6 := hf 6 (by decide)
          generalize vals 6 = v6 at *
          subst f6
          have f7 := hf 7 (by decide)
          generalize vals 7 = v7 at *
          subst f7
          have f8 := hf 8 (by decide)
          generalize vals 8 = v8 at *
          subst f8
          have f9 := hf 9 (by decide)
          generalize vals 9 = v9 at *
          subst f9
          have f10 := hf 10 (by decide)
          generalize vals 10 = v10 at *
          subst f10
          have f11 := hf 11 (by decide)
          generalize vals 11 = v11 at *
          subst f11
          have f12 := hf 12 (by decide)
          generalize vals 12 = v12 at *
          subst f12
          have f13 := hf 13 (by decide)
          generalize vals 13 = v13 at *
          subst f13
          have f14 := hf 14 (by decide)
          generalize vals 14 = v14 at *
          subst f14
          have f15 := hf 15 (by decide)
          generalize vals 15 = v15 at *
          subst f15
          have f16 := hf 16 (by decide)
          generalize vals 16 = v16 at *
          subst f16
          have f17 := hf 17 (by decide)
          generalize vals 17 = v17 at *
          subst f17
          have f18 := hf 18 (by decide)
          generalize vals 18 = v18 at *
          subst f18
          have f19 := hf 19 (by decide)
          generalize vals 19 = v19 at *
          subst f19
          have f20 := hf 20 (by decide)
          generalize vals 20 = v20 at *
          subst f20
          have f21 := hf 21 (by decide)
          generalize vals 21 = v21 at *
          subst f21
          have f22 := hf 22 (by decide)
          generalize vals 22 = v22 at *
          subst f22
          have f23 := hf 23 (by decide)
          generalize vals 23 = v23 at *
          subst f23
          have f24 := hf 24 (by decide)
          generalize vals 24 = v24 at *
          subst f24
          clear hf
          have hc1 := cellOf hb1
          have hf1 := frozOf hb1
          have hz1 := sizeOf hb1
          try simp at hz1
          go_wp2_with (fail)
          go_roundw
          case rel =>
            refine ⟨k + 1, b, by omega, by go_num, (HS.out.trans (by rw [← HB.out, nearS, if_neg HQ.out])).symm, by unfold nearOk; omega, ?_, ?_, ?_, ?_, ?_, ?_, ?_, by (repeat' (first | exact Below.refl _ _ | assumption | refine Below.setCell ?_ ?_ _ | refine Below.drew ?_ | refine Below.alloc ?_ ?_ _ | refine Below.trans ?_ (Below.mono (by assumption) ?_) | (simp; done) | (simp; omega) | omega))⟩
            all_goals first | (simp [go_sem, ↓IntWalk.iteOmega, *]; done) | (intro o; simp [go_sem, ↓IntWalk.iteOmega, *]; done) | omega | (simp; omega) | (simp [go_sem, ↓IntWalk.iteOmega, *]; omega) | (intro o; simp [go_sem, ↓IntWalk.iteOmega, *]; intros; omega)
          case measure => simp [intOf]; omega
      by_cases hq2 : b.1 = 0
      · have HQ := hid (show p ≤ x.2.2 ∧ (b.1 = 0 ∨ absI (x.2.1 - f) < absI (b.2.1 - f)) from ⟨hq1, .inl hq2⟩)
        go_wp2_with (fail)
        refine wp_region_w (n := 25) [] [] (FS24_7_34 i f t p r x b wr W2 w) rfl (by kernel_rfl) (fun _ _ d _ _ h => by cases d <;> exact h) ?_ ?_ ?_ ?_ ?_ ?_
        · intro iq
          match iq with
          | 0 | 1 | 2 | 3 | 4 | 5 | 6 | 7 | 8 | 9 | 10 | 11 | 12 | 13 | 14 | 15 | 16 | 17 | 18 | 19 | 20 | 21 | 22 | 23 | 24 => exact Stable.const _
          | n + 25 => exact Stable.const _
        · intro iq hi
          exact absurd hi (by simp)
        · intro iq hi
          exact absurd hi (by simp)
        · intro iq o hi hl ho vals w1 hb1 hf
          exact absurd hl (by simp)
        · intro iq o hi hl ho vals w1 hb1 hf
          match iq, hi with
          | 0, _ =>
            injection ho with ho
            subst ho
            clear hl
            simp only [fillA, List.take, List.drop, put_none, Act.put, List.setIfInBounds_toArray, List.set_cons_zero, List.set_cons_succ, Nat.reduceAdd]
            clear hf
            go_wp2_with (fail)
            exact RQ.mk rfl ⟨(by first | rfl | (simp [FS24_7_34]; done) | (simp [FS24_7_34, *]; done) | (simp [FS24_7_34, gotV]; done) | (simp [FS24_7_34, gotV]; omega)), fun h => absurd h (by decide)⟩ (Below.refl _ _)
          | 1, _ =>
            injection ho with ho
            subst ho
            clear hl
            simp only [fillA, List.take, List.drop, put_none, Act.put, List.setIfInBounds_toArray, List.set_cons_zero, List.set_cons_succ, Nat.reduceAdd]
            have f0 := hf 0 (by decide) (by kernel_rfl)
            generalize vals 0 = v0 at *
            subst f0
            clear hf
            have hc1 := cellOf hb1
            have hf1 := frozOf hb1
            have hz1 := sizeOf hb1
            try simp at hz1
            go_wp2_with (fail)
            exact RQ.mk rfl ⟨(by first | rfl | (simp [FS24_7_34]; done) | (simp [FS24_7_34, *]; done) | (simp [FS24_7_34, gotV]; done) | (simp [FS24_7_34, gotV]; omega)), fun h => absurd h (by decide)⟩ (Below.refl _ _)
          | 2, _ =>
            injection ho with ho
            subst ho
            clear hl
            simp only [fillA, List.take, List.drop, put_none, Act.put, List.setIfInBounds_toArray, List.set_cons_zero, List.set_cons_succ, Nat.reduceAdd]
            clear hf
            go_wp2_with (fail)
            exact RQ.mk rfl ⟨(by first | rfl | (simp [FS24_7_34]; done) | (simp [FS24_7_34, *]; done) | (simp [FS24_7_34, gotV]; done) | (simp [FS24_7_34, gotV]; omega)), fun h => absurd h (by decide)⟩ (Below.refl _ _)
          | 3, _ =>
            injection ho with ho
            subst ho
            clear hl
            simp only [fillA, List.take, List.drop, put_none, Act.put, List.setIfInBounds_toArray, List.set_cons_zero, List.set_cons_succ, Nat.reduceAdd]
            have f2 := hf 2 (by decide) (by kernel_rfl)
            generalize vals 2 = v2 at *
            subst f2
            clear hf
            have hc1 := cellOf hb1
            have hf1 := frozOf hb1
            have hz1 := sizeOf hb1
            try simp at hz1
            go_wp2_with (fail)
            exact RQ.mk rfl ⟨(by first | rfl | (simp [FS24_7_34]; done) | (simp [FS24_7_34, *]; done) | (simp [FS24_7_34, gotV]; done) | (simp [FS24_7_34, gotV]; omega)), fun h => absurd h (by decide)⟩ (Below.refl _ _)
          | 4, _ =>
            injection ho with ho
            subst ho
            clear hl
            simp only [fillA, List.take, List.drop, put_none, Act.put, List.setIfInBounds_toArray, List.set_cons_zero, List.set_cons_succ, Nat.reduceAdd]
            have f1 := hf 1 (by decide) (by kernel_rfl)
            generalize vals 1 = v1 at *
            subst f1
            have f3 := hf 3 (by decide) (by kernel_rfl)
            generalize vals 3 = v3 at *
            subst f3
            clear hf
            go_wp2_with (fail)
            exact RQ.mk rfl ⟨(by first | rfl | (simp [FS24_7_34]; done) | (simp [FS24_7_34, *]; done) | (simp [FS24_7_34, gotV]; done) | (simp [FS24_7_34, gotV]; omega)), fun h => absurd h (by decide)⟩ (Below.refl _ _)
          | 5, _ =>
            injection ho with ho
            subst ho
            clear hl
            simp only [fillA, List.take, List.drop, put_none, Act.put, List.setIfInBounds_toArray, List.set_cons_zero, List.set_cons_succ, Nat.reduceAdd]
            have f4 := hf 4 (by decide) (by kernel_rfl)
            generalize vals 4 = v4 at *
            subst f4
            clear hf
            go_wp2_with (fail)
            exact RQ.mk rfl ⟨(by first | rfl | (simp [FS24_7_34]; done) | (simp [FS24_7_34, *]; done) | (simp [FS24_7_34, gotV]; done) | (simp [FS24_7_34, gotV]; omega)), fun h => absurd h (by decide)⟩ (Below.refl _ _)
          | 6, _ =>
            injection ho with ho
            subst ho
            clear hl
            simp only [fillA, List.take, List.drop, put_none, Act.put, List.setIfInBounds_toArray, List.set_cons_zero, List.set_cons_succ, Nat.reduceAdd]
            have f5 := hf 5 (by decide) (by kernel_rfl)
            generalize vals 5 = v5 at *
            subst f5
            clear hf
            go_wp2_with (fail)
            exact RQ.mk rfl ⟨(by first | rfl | (simp [FS24_7_34]; done) | (simp [FS24_7_34, *]; done) | (simp [FS24_7_34, gotV]; done) | (simp [FS24_7_34, gotV]; omega)), fun h => absurd h (by decide)⟩ (Below.refl _ _)
          | 7, _ =>
            injection ho with ho
            subst ho
            clear hl
            simp only [fillA, List.take, List.drop, put_none, Act.put, List.setIfInBounds_toArray, List.set_cons_zero, List.set_cons_succ, Nat.reduceAdd]
            have f6 := hf 6 (by decide) (by kernel_rfl)
            generalize vals 6 = v6 at *
            subst f6
            have f5 := hf 5 (by decide) (by kernel_rfl)
            generalize vals 5 = v5 at *
            subst f5
            clear hf
            have hc1 := cellOf hb1
            have hf1 := frozOf hb1
            have hz1 := sizeOf hb1
            try simp at hz1
            go_wp2_with (fail)
            exact RQ.mk rfl ⟨(by first | rfl | (simp [FS24_7_34]; done) | (simp [FS24_7_34, *]; done) | (simp [FS24_7_34, gotV]; done) | (simp [FS24_7_34, gotV]; omega)), fun h => absurd h (by decide)⟩ (Below.refl _ _)
          | 8, _ =>
            injection ho with ho
            subst ho
            clear hl
            simp only [fillA, List.take, List.drop, put_none, Act.put, List.setIfInBounds_toArray, List.set_cons_zero, List.set_cons_succ, Nat.reduceAdd]
            have f7 := hf 7 (by decide) (by kernel_rfl)
            generalize vals 7 = v7 at *
            subst f7
            have f5 := hf 5 (by decide) (by kernel_rfl)
            generalize vals 5 = v5 at *
            subst f5
            clear hf
            go_wp2_with (fail)
            exact RQ.mk rfl ⟨(by first | rfl | (simp [FS24_7_34]; done) | (simp [FS24_7_34, *]; done) | (simp [FS24_7_34, gotV]; done) | (simp [FS24_7_34, gotV]; omega)), fun h => absurd h (by decide)⟩ (Below.refl _ _)
          | 9, _ =>
            injection ho with ho
            subst ho
            clear hl
            simp only [fillA, List.take, List.drop, put_none, Act.put, List.setIfInBounds_toArray, List.set_cons_zero, List.set_cons_succ, Nat.reduceAdd]
            have f8 := hf 8 (by decide) (by kernel_rfl)
            generalize vals 8 = v8 at *
            subst f8
            have f5 := hf 5 (by decide) (by kernel_rfl)
            generalize vals 5 = v5 at *
            subst f5
            clear hf
            go_wp2_with (fail)
            exact RQ.mk rfl ⟨(by first | rfl | (simp [FS24_7_34]; done) | (simp [FS24_7_34, *]; done) | (simp [FS24_7_34, gotV]; done) | (simp [FS24_7_34, gotV]; omega)), fun h => absurd h (by decide)⟩ (Below.refl _ _)
          | 10, _ =>
            injection ho with ho
            subst ho
            clear hl
            simp only [fillA, List.take, List.drop, put_none, Act.put, List.setIfInBounds_toArray, List.set_cons_zero, List.set_cons_succ, Nat.reduceAdd]
            have f9 := hf 9 (by decide) (by kernel_rfl)
            generalize vals 9 = v9 at *
            subst f9
            clear hf
            go_wp2_with (fail)
            exact RQ.mk rfl ⟨(by first | rfl | (simp [FS24_7_34]; done) | (simp [FS24_7_34, *]; done) | (simp [FS24_7_34, gotV]; done) | (simp [FS24_7_34, gotV]; omega)), fun h => absurd h (by decide)⟩ (Below.refl _ _)
          | 11, _ =>
            injection ho with ho
            subst ho
            clear hl
            simp only [fillA, List.take, List.drop, put_none, Act.put, List.setIfInBounds_toArray, List.set_cons_zero, List.set_cons_succ, Nat.reduceAdd]
            have f10 := hf 10 (by decide) (by kernel_rfl)
            generalize vals 10 = v10 at *
            subst f10
            have f9 := hf 9 (by decide) (by kernel_rfl)
            generalize vals 9 = v9 at *
            subst f9
            clear hf
            go_wp2_with (fail)
            exact RQ.mk rfl ⟨(by first | rfl | (simp [FS24_7_34]; done) | (simp [FS24_7_34, *]; done) | (simp [FS24_7_34, gotV]; done) | (simp [FS24_7_34, gotV]; omega)), fun h => absurd h (by decide)⟩ (Below.refl _ _)
          | 12, _ =>
            injection ho with ho
            subst ho
            clear hl
            simp only [fillA, List.take, List.drop, put_none, Act.put, List.setIfInBounds_toArray, List.set_cons_zero, List.set_cons_succ, Nat.reduceAdd]
            have f9 := hf 9 (by decide) (by kernel_rfl)
            generalize vals 9 = v9 at *
            subst f9
            clear hf
            go_wp2_with (fail)
            exact RQ.mk rfl ⟨(by first | rfl | (simp [FS24_7_34]; done) | (simp [FS24_7_34, *]; done) | (simp [FS24_7_34, gotV]; done) | (simp [FS24_7_34, gotV]; omega)), fun h => absurd h (by decide)⟩ (Below.refl _ _)
          | 13, _ =>
            injection ho with ho
            subst ho
            clear hl
            simp only [fillA, List.take, List.drop, put_none, Act.put, List.setIfInBounds_toArray, List.set_cons_zero, List.set_cons_succ, Nat.reduceAdd]
            have f12 := hf 12 (by decide) (by kernel_rfl)
            generalize vals 12 = v12 at *
            subst f12
            have f9 := hf 9 (by decide) (by kernel_rfl)
            generalize vals 9 = v9 at *
            subst f9
            clear hf
            go_wp2_with (fail)
            exact RQ.mk rfl ⟨(by first | rfl | (simp [FS24_7_34]; done) | (simp [FS24_7_34, *]; done) | (simp [FS24_7_34, gotV]; done) | (simp [FS24_7_34, gotV]; omega)), fun h => absurd h (by decide)⟩ (Below.refl _ _)
          | 14, _ =>
            injection ho with ho
            subst ho
            clear hl
            simp only [fillA, List.take, List.drop, put_none, Act.put, List.setIfInBounds_toArray, List.set_cons_zero, List.set_cons_succ, Nat.reduceAdd]
            have f11 := hf 11 (by decide) (by kernel_rfl)
            generalize vals 11 = v11 at *
            subst f11
            have f13 := hf 13 (by decide) (by kernel_rfl)
            generalize vals 13 = v13 at *
            subst f13
            have f9 := hf 9 (by decide) (by kernel_rfl)
            generalize vals 9 = v9 at *
            subst f9
            clear hf
            go_wp2_with (fail)
            exact RQ.mk rfl ⟨(by first | rfl | (simp [FS24_7_34]; done) | (simp [FS24_7_34, *]; done) | (simp [FS24_7_34, gotV]; done) | (simp [FS24_7_34, gotV]; omega)), fun h => absurd h (by decide)⟩ (Below.refl _ _)
          | 15, _ =>
            injection ho with ho
            subst ho
            clear hl
            simp only [fillA, List.take, List.drop, put_none, Act.put, List.setIfInBounds_toArray, List.set_cons_zero, List.set_cons_succ, Nat.reduceAdd]
            have f14 := hf 14 (by decide) (by kernel_rfl)
            generalize vals 14 = v14 at *
            subst f14
            have f9 := hf 9 (by decide) (by kernel_rfl)
            generalize vals 9 = v9 at *
            subst f9
            clear hf
            go_wp2_with (first | (go_at_call 54; refine (c_absI _ _ (by omega)).mono ?_; rintro e w' ⟨rfl, hb⟩; have hc := cellOf hb; have hf := frozOf hb; have hz := sizeOf hb; try simp at hz))
            exact RQ.mk rfl ⟨(by first | rfl | (simp [FS24_7_34]; done) | (simp [FS24_7_34, *]; done) | (simp [FS24_7_34, gotV]; done) | (simp [FS24_7_34, gotV]; omega)), fun h => absurd h (by decide)⟩ (Below.refl _ _)
          | 16, _ =>
            injection ho with ho
            subst ho
            clear hl
            simp only [fillA, List.take, List.drop, put_none, Act.put, List.setIfInBounds_toArray, List.set_cons_zero, List.set_cons_succ, Nat.reduceAdd]
            have f9 := hf 9 (by decide) (by kernel_rfl)
            generalize vals 9 = v9 at *
            subst f9
            clear hf
            go_wp2_with (fail)
            exact RQ.mk rfl ⟨(by first | rfl | (simp [FS24_7_34]; done) | (simp [FS24_7_34, *]; done) | (simp [FS24_7_34, gotV]; done) | (simp [FS24_7_34, gotV]; omega)), fun h => absurd h (by decide)⟩ (Below.refl _ _)
          | 17, _ =>
            injection ho with ho
            subst ho
            clear hl
            simp only [fillA, List.take, List.drop, put_none, Act.put, List.setIfInBounds_toArray, List.set_cons_zero, List.set_cons_succ, Nat.reduceAdd]
            have f16 := hf 16 (by decide) (by kernel_rfl)
            generalize vals 16 = v16 at *
            subst f16
            have f9 := hf 9 (by decide) (by kernel_rfl)
            generalize vals 9 = v9 at *
            subst f9
            clear hf
            go_wp2_with (fail)
            exact RQ.mk rfl ⟨(by first | rfl | (simp [FS24_7_34]; done) | (simp [FS24_7_34, *]; done) | (simp [FS24_7_34, gotV]; done) | (simp [FS24_7_34, gotV]; omega)), fun h => absurd h (by decide)⟩ (Below.refl _ _)
          | 18, _ =>
            injection ho with ho
            subst ho
            clear hl
            simp only [fillA, List.take, List.drop, put_none, Act.put, List.setIfInBounds_toArray, List.set_cons_zero, List.set_cons_succ, Nat.reduceAdd]
            have f9 := hf 9 (by decide) (by kernel_rfl)
            generalize vals 9 = v9 at *
            subst f9
            clear hf
            go_wp2_with (fail)
            exact RQ.mk rfl ⟨(by first | rfl | (simp [FS24_7_34]; done) | (simp [FS24_7_34, *]; done) | (simp [FS24_7_34, gotV]; done) | (simp [FS24_7_34, gotV]; omega)), fun h => absurd h (by decide)⟩ (Below.refl _ _)
          | 19, _ =>
            injection ho with ho
            subst ho
            clear hl
            simp only [fillA, List.take, List.drop, put_none, Act.put, List.setIfInBounds_toArray, List.set_cons_zero, List.set_cons_succ, Nat.reduceAdd]
            have f18 := hf 18 (by decide) (by kernel_rfl)
            generalize vals 18 = v18 at *
            subst f18
            have f9 := hf 9 (by decide) (by kernel_rfl)
            generalize vals 9 = v9 at *
            subst f9
            clear hf
            go_wp2_with (fail)
            exact RQ.mk rfl ⟨(by first | rfl | (simp [FS24_7_34]; done) | (simp [FS24_7_34, *]; done) | (simp [FS24_7_34, gotV]; done) | (simp [FS24_7_34, gotV]; omega)), fun h => absurd h (by decide)⟩ (Below.refl _ _)
          | 20, _ =>
            injection ho with ho
            subst ho
            clear hl
            simp only [fillA, List.take, List.drop, put_none, Act.put, List.setIfInBounds_toArray, List.set_cons_zero, List.set_cons_succ, Nat.reduceAdd]
            have f17 := hf 17 (by decide) (by kernel_rfl)
            generalize vals 17 = v17 at *
            subst f17
            have f19 := hf 19 (by decide) (by kernel_rfl)
            generalize vals 19 = v19 at *
            subst f19
            have f9 := hf 9 (by decide) (by kernel_rfl)
            generalize vals 9 = v9 at *
            subst f9
            clear hf
            go_wp2_with (fail)
            exact RQ.mk rfl ⟨(by first | rfl | (simp [FS24_7_34]; done) | (simp [FS24_7_34, *]; done) | (simp [FS24_7_34, gotV]; done) | (simp [FS24_7_34, gotV]; omega)), fun h => absurd h (by decide)⟩ (Below.refl _ _)
          | 21, _ =>
            injection ho with ho
            subst ho
            clear hl
            simp only [fillA, List.take, List.drop, put_none, Act.put, List.setIfInBounds_toArray, List.set_cons_zero, List.set_cons_succ, Nat.reduceAdd]
            have f20 := hf 20 (by decide) (by kernel_rfl)
            generalize vals 20 = v20 at *
            subst f20
            have f15 := hf 15 (by decide) (by kernel_rfl)
            generalize vals 15 = v15 at *
            subst f15
            have f9 := hf 9 (by decide) (by kernel_rfl)
            generalize vals 9 = v9 at *
            subst f9
            clear hf
            go_wp2_with (first | (go_at_call 54; refine (c_absI _ _ (by omega)).mono ?_; rintro e w' ⟨rfl, hb⟩; have hc := cellOf hb; have hf := frozOf hb; have hz := sizeOf hb; try simp at hz))
            exact RQ.mk rfl ⟨(by first | rfl | (simp [FS24_7_34]; done) | (simp [FS24_7_34, *]; done) | (simp [FS24_7_34, gotV]; done) | (simp [FS24_7_34, gotV]; omega)), fun h => absurd h (by decide)⟩ (Below.refl _ _)
          | 22, _ =>
            injection ho with ho
            subst ho
            clear hl
            simp only [fillA, List.take, List.drop, put_none, Act.put, List.setIfInBounds_toArray, List.set_cons_zero, List.set_cons_succ, Nat.reduceAdd]
            have f15 := hf 15 (by decide) (by kernel_rfl)
            generalize vals 15 = v15 at *
            subst f15
            have f21 := hf 21 (by decide) (by kernel_rfl)
            generalize vals 21 = v21 at *
            subst f21
            have f9 := hf 9 (by decide) (by kernel_rfl)
            generalize vals 9 = v9 at *
            subst f9
            clear hf
            go_wp2_with (fail)
            exact RQ.mk rfl ⟨(by first | rfl | (simp [FS24_7_34]; done) | (simp [FS24_7_34, *]; done) | (simp [FS24_7_34, gotV]; done) | (simp [FS24_7_34, gotV]; omega)), fun h => absurd h (by decide)⟩ (Below.refl _ _)
          | 23, _ =>
            injection ho with ho
            subst ho
            clear hl
            simp only [fillA, List.take, List.drop, put_none, Act.put, List.setIfInBounds_toArray, List.set_cons_zero, List.set_cons_succ, Nat.reduceAdd]
            have f9 := hf 9 (by decide) (by kernel_rfl)
            generalize vals 9 = v9 at *
            subst f9
            have f22 := hf 22 (by decide) (by kernel_rfl)
            generalize vals 22 = v22 at *
            subst f22
            have f5 := hf 5 (by decide) (by kernel_rfl)
            generalize vals 5 = v5 at *
            subst f5
            clear hf
            go_wp2_with (fail)
            exact RQ.mk rfl ⟨(by first | rfl | (simp [FS24_7_34]; done) | (simp [FS24_7_34, *]; done) | (simp [FS24_7_34, gotV]; done) | (simp [FS24_7_34, gotV]; omega)), fun h => absurd h (by decide)⟩ (Below.refl _ _)
          | 24, _ =>
            injection ho with ho
            subst ho
            clear hl
            simp only [fillA, List.take, List.drop, put_none, Act.put, List.setIfInBounds_toArray, List.set_cons_zero, List.set_cons_succ, Nat.reduceAdd]
            have f5 := hf 5 (by decide) (by kernel_rfl)
            generalize vals 5 = v5 at *
            subst f5
            have f23 := hf 23 (by decide) (by kernel_rfl)
            generalize vals 23 = v23 at *
            subst f23
            clear hf
            go_wp2_with (fail)
            exact RQ.mk rfl ⟨(by first | rfl | (simp [FS24_7_34]; done) | (simp [FS24_7_34, *]; done) | (simp [FS24_7_34, gotV]; done) | (simp [FS24_7_34, gotV]; omega)), fun h => absurd h (by decide)⟩ (Below.refl _ _)
          | m + 25, h => exact absurd h (by omega)
        · intro vals w1 hb1 hf hd
          simp only [fillA, List.take, List.drop, put_none, Act.put, List.setIfInBounds_toArray, List.set_cons_zero, List.set_cons_succ, Nat.reduceAdd]
          clear hd
          have f0 := hf 0 (by decide)
          generalize vals 0 = v0 at *
          subst f0
          have f1 := hf 1 (by decide)
          generalize vals 1 = v1 at *
          subst f1
          have f2 := hf 2 (by decide)
          generalize vals 2 = v2 at *
          subst f2
          have f3 := hf 3 (by decide)
          generalize vals 3 = v3 at *
          subst f3
          have f4 := hf 4 (by decide)
          generalize vals 4 = v4 at *
          subst f4
          have f5 := hf 5 (by decide)
          generalize vals 5 = v5 at *
          subst f5
          have f6 := hf 6 (by decide)
          generalize vals 6 = v6 at *
          subst f6
          have f7 := hf 7 (by decide)
          generalize vals 7 = v7 at *
          subst f7
          have f8 := hf 8 (by decide)
          generalize vals 8 = v8 at *
          subst f8
          have f9 := hf 9 (by decide)
          generalize vals 9 = v9 at *
          subst f9
          have f10 := hf 10 (by decide)
          generalize vals 10 = v10 at *
          subst f10
          have f11 := hf 11 (by decide)
          generalize vals 11 = v11 at *
          subst f11
          have f12 := hf 12 (by decide)
          generalize vals 12 = v12 at *
          subst f12
          have f13 := hf 13 (by decide)
          generalize vals 13 = v13 at *
          subst f13
          have f14 := hf 14 (by decide)
          generalize vals 14 = v14 at *
          subst f14
          have f15 := hf 15 (by decide)
          generalize vals 15 = v15 at *
          subst f15
          have f16 := hf 16 (by decide)
          generalize vals 16 = v16 at *
          subst f16
          have f17 := hf 17 (by decide)
          generalize vals 17 = v17 at *
          subst f17
          have f18 := hf 18 (by decide)
          generalize vals 18 = v18 at *
          subst f18
          have f19 := hf 19 (by decide)
          generalize vals 19 = v19 at *
          subst f19
          have f20 := hf 20 (by decide)
          generalize vals 20 = v20 at *
          subst f20
          have f21 := hf 21 (by decide)
          generalize vals 21 = v21 at *
          subst f21
          have f22 := hf 22 (by decide)
          generalize vals 22 = v22 at *
          subst f22
          have f23 := hf 23 (by decide)
          generalize vals 23 = v23 at *
          subst f23
          have f24 := hf 24 (by decide)
          generalize vals 24 = v24 at *
          subst f24
          clear hf
          have hc1 := cellOf hb1
          have hf1 := frozOf hb1
          have hz1 := sizeOf hb1
          try simp at hz1
          go_wp2_with (fail)
          go_roundw
          case rel =>
            refine ⟨k + 1, x, by omega, by go_num, (HS.out.trans (by rw [← HB.out, nearS, if_pos HQ.out])).symm, by unfold nearOk; omega, ?_, ?_, ?_, ?_, ?_, ?_, ?_, by (repeat' (first | exact Below.refl _ _ | assumption | refine Below.setCell ?_ ?_ _ | refine Below.drew ?_ | refine Below.alloc ?_ ?_ _ | refine Below.trans ?_ (Below.mono (by assumption) ?_) | (simp; done) | (simp; omega) | omega))⟩
            all_goals first | (simp [go_sem, ↓IntWalk.iteOmega, *]; done) | (intro o; simp [go_sem, ↓IntWalk.iteOmega, *]; done) | omega | (simp; omega) | (simp [go_sem, ↓IntWalk.iteOmega, *]; omega) | (intro o; simp [go_sem, ↓IntWalk.iteOmega, *]; intros; omega)
          case measure => simp [intOf]; omega
      by_cases hq3 : absI (x.2.1 - f) < absI (b.2.1 - f)
      · have HQ := hid (show p ≤ x.2.2 ∧ (b.1 = 0 ∨ absI (x.2.1 - f) < absI (b.2.1 - f)) from ⟨hq1, .inr hq3⟩)
        go_wp2_with (fail)
        refine wp_region_w (n := 25) [] [] (FS24_7_35 i f t p r x b wr W2 w) rfl (by kernel_rfl) (fun _ _ d _ _ h => by cases d <;> exact h) ?_ ?_ ?_ ?_ ?_ ?_
        · intro iq
          match iq with
          | 0 | 1 | 2 | 3 | 4 | 5 | 6 | 7 | 8 | 9 | 10 | 11 | 12 | 13 | 14 | 15 | 16 | 17 | 18 | 19 | 20 | 21 | 22 | 23 | 24 => exact Stable.const _
          | n + 25 => exact Stable.const _
        · intro iq hi
          exact absurd hi (by simp)
        · intro iq hi
          exact absurd hi (by simp)
        · intro iq o hi hl ho vals w1 hb1 hf
          exact absurd hl (by simp)
        · intro iq o hi hl ho vals w1 hb1 hf
          match iq, hi with
          | 0, _ =>
            injection ho with ho
            subst ho
            clear hl
            simp only [fillA, List.take, List.drop, put_none, Act.put, List.setIfInBounds_toArray, List.set_cons_zero, List.set_cons_succ, Nat.reduceAdd]
            clear hf
            go_wp2_with (fail)
            exact RQ.mk rfl ⟨(by first | rfl | (simp [FS24_7_35]; done) | (simp [FS24_7_35, *]; done) | (simp [FS24_7_35, gotV]; done) | (simp [FS24_7_35, gotV]; omega)), fun h => absurd h (by decide)⟩ (Below.refl _ _)
          | 1, _ =>
            injection ho with ho
            subst ho
            clear hl
            simp only [fillA, List.take, List.drop, put_none, Act.put, List.setIfInBounds_toArray, List.set_cons_zero, List.set_cons_succ, Nat.reduceAdd]
            have f0 := hf 0 (by decide) (by kernel_rfl)
            generalize vals 0 = v0 at *
            subst f0
            clear hf
            have hc1 := cellOf hb1
            have hf1 := frozOf hb1
            have hz1 := sizeOf hb1
            try simp at hz1
            go_wp2_with (fail)
            exact RQ.mk rfl ⟨(by first | rfl | (simp [FS24_7_35]; done) | (simp [FS24_7_35, *]; done) | (simp [FS24_7_35, gotV]; done) | (simp [FS24_7_35, gotV]; omega)), fun h => absurd h (by decide)⟩ (Below.refl _ _)
          | 2, _ =>
            injection ho with ho
            subst ho
            clear hl
            simp only [fillA, List.take, List.drop, put_none, Act.put, List.setIfInBounds_toArray, List.set_cons_zero, List.set_cons_succ, Nat.reduceAdd]
            clear hf
            go_wp2_with (fail)
            exact RQ.mk rfl ⟨(by first | rfl | (simp [FS24_7_35]; done) | (simp [FS24_7_35, *]; done) | (simp [FS24_7_35, gotV]; done) | (simp [FS24_7_35, gotV]; omega)), fun h => absurd h (by decide)⟩ (Below.refl _ _)
          | 3, _ =>
            injection ho with ho
            subst ho
            clear hl
            simp only [fillA, List.take, List.drop, put_none, Act.put, List.setIfInBounds_toArray, List.set_cons_zero, List.set_cons_succ, Nat.reduceAdd]
            have f2 := hf 2 (by decide) (by kernel_rfl)
            generalize vals 2 = v2 at *
            subst f2
            clear hf
            have hc1 := cellOf hb1
            have hf1 := frozOf hb1
            have hz1 := sizeOf hb1
            try simp at hz1
            go_wp2_with (fail)
            exact RQ.mk rfl ⟨(by first | rfl | (simp [FS24_7_35]; done) | (simp [FS24_7_35, *]; done) | (simp [FS24_7_35, gotV]; done) | (simp [FS24_7_35, gotV]; omega)), fun h => absurd h (by decide)⟩ (Below.refl _ _)
          | 4, _ =>
            injection ho with ho
            subst ho
            clear hl
            simp only [fillA, List.take, List.drop, put_none, Act.put, List.setIfInBounds_toArray, List.set_cons_zero, List.set_cons_succ, Nat.reduceAdd]
            have f1 := hf 1 (by decide) (by kernel_rfl)
            generalize vals 1 = v1 at *
            subst f1
            have f3 := hf 3 (by decide) (by kernel_rfl)
            generalize vals 3 = v3 at *
            subst f3
            clear hf
            go_wp2_with (fail)
            exact RQ.mk rfl ⟨(by first | rfl | (simp [FS24_7_35]; done) | (simp [FS24_7_35, *]; done) | (simp [FS24_7_35, gotV]; done) | (simp [FS24_7_35, gotV]; omega)), fun h => absurd h (by decide)⟩ (Below.refl _ _)
          | 5, _ =>
            injection ho with ho
            subst ho
            clear hl
            simp only [fillA, List.take, List.drop, put_none, Act.put, List.setIfInBounds_toArray, List.set_cons_zero, List.set_cons_succ, Nat.reduceAdd]
            have f4 := hf 4 (by decide) (by kernel_rfl)
            generalize vals 4 = v4 at *
            subst f4
            clear hf
            go_wp2_with (fail)
            exact RQ.mk rfl ⟨(by first | rfl | (simp [FS24_7_35]; done) | (simp [FS24_7_35, *]; done) | (simp [FS24_7_35, gotV]; done) | (simp [FS24_7_35, gotV]; omega)), fun h => absurd h (by decide)⟩ (Below.refl _ _)
          | 6, _ =>
            injection ho with ho
            subst ho
            clear hl
            simp only [fillA, List.take, List.drop, put_none, Act.put, List.setIfInBounds_toArray, List.set_cons_zero, List.set_cons_succ, Nat.reduceAdd]
            have f5 := hf 5 (by decide) (by kernel_rfl)
            generalize vals 5 = v5 at *
            subst f5
            clear hf
            go_wp2_with (fail)
            exact RQ.mk rfl ⟨(by first | rfl | (simp [FS24_7_35]; done) | (simp [FS24_7_35, *]; done) | (simp [FS24_7_35, gotV]; done) | (simp [FS24_7_35, gotV]; omega)), fun h => absurd h (by decide)⟩ (Below.refl _ _)
          | 7, _ =>
            injection ho with ho
            subst ho
            clear hl
            simp only [fillA, List.take, List.drop, put_none, Act.put, List.setIfInBounds_toArray, List.set_cons_zero, List.set_cons_succ, Nat.reduceAdd]
            have f6 := hf 6 (by decide) (by kernel_rfl)
            generalize vals 6 = v6 at *
            subst f6
            have f5 := hf 5 (by decide) (by kernel_rfl)
            generalize vals 5 = v5 at *
            subst f5
            clear hf
            have hc1 := cellOf hb1
            have hf1 := frozOf hb1
            have hz1 := sizeOf hb1
            try simp at hz1
            go_wp2_with (fail)
            exact RQ.mk rfl ⟨(by first | rfl | (simp [FS24_7_35]; done) | (simp [FS24_7_35, *]; done) | (simp [FS24_7_35, gotV]; done) | (simp [FS24_7_35, gotV]; omega)), fun h => absurd h (by decide)⟩ (Below.refl _ _)
          | 8, _ =>
            injection ho with ho
            subst ho
            clear hl
            simp only [fillA, List.take, List.drop, put_none, Act.put, List.setIfInBounds_toArray, List.set_cons_zero, List.set_cons_succ, Nat.reduceAdd]
            have f7 := hf 7 (by decide) (by kernel_rfl)
            generalize vals 7 = v7 at *
            subst f7
            have f5 := hf 5 (by decide) (by kernel_rfl)
            generalize vals 5 = v5 at *
            subst f5
            clear hf
            go_wp2_with (fail)
            exact RQ.mk rfl ⟨(by first | rfl | (simp [FS24_7_35]; done) | (simp [FS24_7_35, *]; done) | (simp [FS24_7_35, gotV]; done) | (simp [FS24_7_35, gotV]; omega)), fun h => absurd h (by decide)⟩ (Below.refl _ _)
          | 9, _ =>
            injection ho with ho
            subst ho
            clear hl
            simp only [fillA, List.take, List.drop, put_none, Act.put, List.setIfInBounds_toArray, List.set_cons_zero, List.set_cons_succ, Nat.reduceAdd]
            have f8 := hf 8 (by decide) (by kernel_rfl)
            generalize vals 8 = v8 at *
            subst f8
            have f5 := hf 5 (by decide) (by kernel_rfl)
            generalize vals 5 = v5 at *
            subst f5
            clear hf
            go_wp2_with (fail)
            exact RQ.mk rfl ⟨(by first | rfl | (simp [FS24_7_35]; done) | (simp [FS24_7_35, *]; done) | (simp [FS24_7_35, gotV]; done) | (simp [FS24_7_35, gotV]; omega)), fun h => absurd h (by decide)⟩ (Below.refl _ _)
          | 10, _ =>
            injection ho with ho
            subst ho
            clear hl
            simp only [fillA, List.take, List.drop, put_none, Act.put, List.setIfInBounds_toArray, List.set_cons_zero, List.set_cons_succ, Nat.reduceAdd]
            have f9 := hf 9 (by decide) (by kernel_rfl)
            generalize vals 9 = v9 at *
            subst f9
            clear hf
            go_wp2_with (fail)
            exact RQ.mk rfl ⟨(by first | rfl | (simp [FS24_7_35]; done) | (simp [FS24_7_35, *]; done) | (simp [FS24_7_35, gotV]; done) | (simp [FS24_7_35, gotV]; omega)), fun h => absurd h (by decide)⟩ (Below.refl _ _)
          | 11, _ =>
            injection ho with ho
            subst ho
            clear hl
            simp only [fillA, List.take, List.drop, put_none, Act.put, List.setIfInBounds_toArray, List.set_cons_zero, List.set_cons_succ, Nat.reduceAdd]
            have f10 := hf 10 (by decide) (by kernel_rfl)
            generalize vals 10 = v10 at *
            subst f10
            have f9 := hf 9 (by decide) (by kernel_rfl)
            generalize vals 9 = v9 at *
            subst f9
            clear hf
            have hc1 := cellOf hb1
            have hf1 := frozOf hb1
            have hz1 := sizeOf hb1
            try simp at hz1
            go_wp2_with (fail)
            exact RQ.mk rfl ⟨(by first | rfl | (simp [FS24_7_35]; done) | (simp [FS24_7_35, *]; done) | (simp [FS24_7_35, gotV]; done) | (simp [FS24_7_35, gotV]; omega)), fun h => absurd h (by decide)⟩ (Below.refl _ _)
          | 12, _ =>
            injection ho with ho
            subst ho
            clear hl
            simp only [fillA, List.take, List.drop, put_none, Act.put, List.setIfInBounds_toArray, List.set_cons_zero, List.set_cons_succ, Nat.reduceAdd]
            have f9 := hf 9 (by decide) (by kernel_rfl)
            generalize vals 9 = v9 at *
            subst f9
            clear hf
            go_wp2_with (fail)
            exact RQ.mk rfl ⟨(by first | rfl | (simp [FS24_7_35]; done) | (simp [FS24_7_35, *]; done) | (simp [FS24_7_35, gotV]; done) | (simp [FS24_7_35, gotV]; omega)), fun h => absurd h (by decide)⟩ (Below.refl _ _)
          | 13, _ =>
            injection ho with ho
            subst ho
            clear hl
            simp only [fillA, List.take, List.drop, put_none, Act.put, List.setIfInBounds_toArray, List.set_cons_zero, List.set_cons_succ, Nat.reduceAdd]
            have f12 := hf 12 (by decide) (by kernel_rfl)
            generalize vals 12 = v12 at *
            subst f12
            have f9 := hf 9 (by decide) (by kernel_rfl)
            generalize vals 9 = v9 at *
            subst f9
            clear hf
            have hc1 := cellOf hb1
            have hf1 := frozOf hb1
            have hz1 := sizeOf hb1
            try simp at hz1
            go_wp2_with (fail)
            exact RQ.mk rfl ⟨(by first | rfl | (simp [FS24_7_35]; done) | (simp [FS24_7_35, *]; done) | (simp [FS24_7_35, gotV]; done) | (simp [FS24_7_35, gotV]; omega)), fun h => absurd h (by decide)⟩ (Below.refl _ _)
          | 14, _ =>
            injection ho with ho
            subst ho
            clear hl
            simp only [fillA, List.take, List.drop, put_none, Act.put, List.setIfInBounds_toArray, List.set_cons_zero, List.set_cons_succ, Nat.reduceAdd]
            have f11 := hf 11 (by decide) (by kernel_rfl)
            generalize vals 11 = v11 at *
            subst f11
            have f13 := hf 13 (by decide) (by kernel_rfl)
            generalize vals 13 = v13 at *
            subst f13
            have f9 := hf 9 (by decide) (by kernel_rfl)
            generalize vals 9 = v9 at *
            subst f9
            clear hf
            go_wp2_with (fail)
            exact RQ.mk rfl ⟨(by first | rfl | (simp [FS24_7_35]; done) | (simp [FS24_7_35, *]; done) | (simp [FS24_7_35, gotV]; done) | (simp [FS24_7_35, gotV]; omega)), fun h => absurd h (by decide)⟩ (Below.refl _ _)
          | 15, _ =>
            injection ho with ho
            subst ho
            clear hl
            simp only [fillA, List.take, List.drop, put_none, Act.put, List.setIfInBounds_toArray, List.set_cons_zero, List.set_cons_succ, Nat.reduceAdd]
            have f14 := hf 14 (by decide) (by kernel_rfl)
            generalize vals 14 = v14 at *
            subst f14
            have f9 := hf 9 (by decide) (by kernel_rfl)
            generalize vals 9 = v9 at *
            subst f9
            clear hf
            have hc1 := cellOf hb1
            have hf1 := frozOf hb1
            have hz1 := sizeOf hb1
            try simp at hz1
            go_wp2_with (first | (go_at_call 54; refine (c_absI _ _ (by omega)).mono ?_; rintro e w' ⟨rfl, hb⟩; have hc := cellOf hb; have hf := frozOf hb; have hz := sizeOf hb; try simp at hz))
            exact RQ.mk rfl ⟨(by first | rfl | (simp [FS24_7_35]; done) | (simp [FS24_7_35, *]; done) | (simp [FS24_7_35, gotV]; done) | (simp [FS24_7_35, gotV]; omega)), fun h => absurd h (by decide)⟩ (by (repeat' (first | exact Below.refl _ _ | assumption | refine Below.setCell ?_ ?_ _ | refine Below.drew ?_ | refine Below.alloc ?_ ?_ _ | refine Below.trans ?_ (Below.mono (by assumption) ?_) | (simp; done) | (simp; omega) | omega)))
          | 16, _ =>
            injection ho with ho
            subst ho
            clear hl
            simp only [fillA, List.take, List.drop, put_none, Act.put, List.setIfInBounds_toArray, List.set_cons_zero, List.set_cons_succ, Nat.reduceAdd]
            have f9 := hf 9 (by decide) (by kernel_rfl)
            generalize vals 9 = v9 at *
            subst f9
            clear hf
            go_wp2_with (fail)
            exact RQ.mk rfl ⟨(by first | rfl | (simp [FS24_7_35]; done) | (simp [FS24_7_35, *]; done) | (simp [FS24_7_35, gotV]; done) | (simp [FS24_7_35, gotV]; omega)), fun h => absurd h (by decide)⟩ (Below.refl _ _)
          | 17, _ =>
            injection ho with ho
            subst ho
            clear hl
            simp only [fillA, List.take, List.drop, put_none, Act.put, List.setIfInBounds_toArray, List.set_cons_zero, List.set_cons_succ, Nat.reduceAdd]
            have f16 := hf 16 (by decide) (by kernel_rfl)
            generalize vals 16 = v16 at *
            subst f16
            have f9 := hf 9 (by decide) (by kernel_rfl)
            generalize vals 9 = v9 at *
            subst f9
            clear hf
            have hc1 := cellOf hb1
            have hf1 := frozOf hb1
            have hz1 := sizeOf hb1
            try simp at hz1
            go_wp2_with (fail)
            exact RQ.mk rfl ⟨(by first | rfl | (simp [FS24_7_35]; done) | (simp [FS24_7_35, *]; done) | (simp [FS24_7_35, gotV]; done) | (simp [FS24_7_35, gotV]; omega)), fun h => absurd h (by decide)⟩ (Below.refl _ _)
          | 18, _ =>
            injection ho with ho
            subst ho
            clear hl
            simp only [fillA, List.take, List.drop, put_none, Act.put, List.setIfInBounds_toArray, List.set_cons_zero, List.set_cons_succ, Nat.reduceAdd]
            have f9 := hf 9 (by decide) (by kernel_rfl)
            generalize vals 9 = v9 at *
            subst f9
            clear hf
            go_wp2_with (fail)
            exact RQ.mk rfl ⟨(by first | rfl | (simp [FS24_7_35]; done) | (simp [FS24_7_35, *]; done) | (simp [FS24_7_35, gotV]; done) | (simp [FS24_7_35, gotV]; omega)), fun h => absurd h (by decide)⟩ (Below.refl _ _)
          | 19, _ =>
            injection ho with ho
            subst ho
            clear hl
            simp only [fillA, List.take, List.drop, put_none, Act.put, List.setIfInBounds_toArray, List.set_cons_zero, List.set_cons_succ, Nat.reduceAdd]
            have f18 := hf 18 (by decide) (by kernel_rfl)
            generalize vals 18 = v18 at *
            subst f18
            have f9 := hf 9 (by decide) (by kernel_rfl)
            generalize vals 9 = v9 at *
            subst f9
            clear hf
            have hc1 := cellOf hb1
            have hf1 := frozOf hb1
            have hz1 := sizeOf hb1
            try simp at hz1
            go_wp2_with (fail)
            exact RQ.mk rfl ⟨(by first | rfl | (simp [FS24_7_35]; done) | (simp [FS24_7_35, *]; done) | (simp [FS24_7_35, gotV]; done) | (simp [FS24_7_35, gotV]; omega)), fun h => absurd h (by decide)⟩ (Below.refl _ _)
          | 20, _ =>
            injection ho with ho
            subst ho
            clear hl
            simp only [fillA, List.take, List.drop, put_none, Act.put, List.setIfInBounds_toArray, List.set_cons_zero, List.set_cons_succ, Nat.reduceAdd]
            have f17 := hf 17 (by decide) (by kernel_rfl)
            generalize vals 17 = v17 at *
            subst f17
            have f19 := hf 19 (by decide) (by kernel_rfl)
            generalize vals 19 = v19 at *
            subst f19
            have f9 := hf 9 (by decide) (by kernel_rfl)
            generalize vals 9 = v9 at *
            subst f9
            clear hf
            go_wp2_with (fail)
            exact RQ.mk rfl ⟨(by first | rfl | (simp [FS24_7_35]; done) | (simp [FS24_7_35, *]; done) | (simp [FS24_7_35, gotV]; done) | (simp [FS24_7_35, gotV]; omega)), fun h => absurd h (by decide)⟩ (Below.refl _ _)
          | 21, _ =>
            injection ho with ho
            subst ho
            clear hl
            simp only [fillA, List.take, List.drop, put_none, Act.put, List.setIfInBounds_toArray, List.set_cons_zero, List.set_cons_succ, Nat.reduceAdd]
            have f20 := hf 20 (by decide) (by kernel_rfl)
            generalize vals 20 = v20 at *
            subst f20
            have f15 := hf 15 (by decide) (by kernel_rfl)
            generalize vals 15 = v15 at *
            subst f15
            have f9 := hf 9 (by decide) (by kernel_rfl)
            generalize vals 9 = v9 at *
            subst f9
            clear hf
            have hc1 := cellOf hb1
            have hf1 := frozOf hb1
            have hz1 := sizeOf hb1
            try simp at hz1
            go_wp2_with (first | (go_at_call 54; refine (c_absI _ _ (by omega)).mono ?_; rintro e w' ⟨rfl, hb⟩; have hc := cellOf hb; have hf := frozOf hb; have hz := sizeOf hb; try simp at hz))
            exact RQ.mk rfl ⟨(by first | rfl | (simp [FS24_7_35]; done) | (simp [FS24_7_35, *]; done) | (simp [FS24_7_35, gotV]; done) | (simp [FS24_7_35, gotV]; omega)), fun h => absurd h (by decide)⟩ (by (repeat' (first | exact Below.refl _ _ | assumption | refine Below.setCell ?_ ?_ _ | refine Below.drew ?_ | refine Below.alloc ?_ ?_ _ | refine Below.trans ?_ (Below.mono (by assumption) ?_) | (simp; done) | (simp; omega) | omega)))
          | 22, _ =>
            injection ho with ho
            subst ho
            clear hl
            simp only [fillA, List.take, List.drop, put_none, Act.put, List.setIfInBounds_toArray, List.set_cons_zero, List.set_cons_succ, Nat.reduceAdd]
            have f15 := hf 15 (by decide) (by kernel_rfl)
            generalize vals 15 = v15 at *
            subst f15
            have f21 := hf 21 (by decide) (by kernel_rfl)
            generalize vals 21 = v21 at *
            subst f21
            have f9 := hf 9 (by decide) (by kernel_rfl)
            generalize vals 9 = v9 at *
            subst f9
            clear hf
            go_wp2_with (fail)
            exact RQ.mk rfl ⟨(by first | rfl | (simp [FS24_7_35]; done) | (simp [FS24_7_35, *]; done) | (simp [FS24_7_35, gotV]; done) | (simp [FS24_7_35, gotV]; omega)), fun h => absurd h (by decide)⟩ (Below.refl _ _)
          | 23, _ =>
            injection ho with ho
            subst ho
            clear hl
            simp only [fillA, List.take, List.drop, put_none, Act.put, List.setIfInBounds_toArray, List.set_cons_zero, List.set_cons_succ, Nat.reduceAdd]
            have f9 := hf 9 (by decide) (by kernel_rfl)
            generalize vals 9 = v9 at *
            subst f9
            have f22 := hf 22 (by decide) (by kernel_rfl)
            generalize vals 22 = v22 at *
            subst f22
            have f5 := hf 5 (by decide) (by kernel_rfl)
            generalize vals 5 = v5 at *
            subst f5
            clear hf
            go_wp2_with (fail)
            exact RQ.mk rfl ⟨(by first | rfl | (simp [FS24_7_35]; done) | (simp [FS24_7_35, *]; done) | (simp [FS24_7_35, gotV]; done) | (simp [FS24_7_35, gotV]; omega)), fun h => absurd h (by decide)⟩ (Below.refl _ _)
          | 24, _ =>
            injection ho with ho
            subst ho
            clear hl
            simp only [fillA, List.take, List.drop, put_none, Act.put, List.setIfInBounds_toArray, List.set_cons_zero, List.set_cons_succ, Nat.reduceAdd]
            have f5 := hf 5 (by decide) (by kernel_rfl)
            generalize vals 5 = v5 at *
            subst f5
            have f23 := hf 23 (by decide) (by kernel_rfl)
            generalize vals 23 = v23 at *
            subst f23
            clear hf
            go_wp2_with (fail)
            exact RQ.mk rfl ⟨(by first | rfl | (simp [FS24_7_35]; done) | (simp [FS24_7_35, *]; done) | (simp [FS24_7_35, gotV]; done) | (simp [FS24_7_35, gotV]; omega)), fun h => absurd h (by decide)⟩ (Below.refl _ _)
          | m + 25, h => exact absurd h (by omega)
        · intro vals w1 hb1 hf hd
          simp only [fillA, List.take, List.drop, put_none, Act.put, List.setIfInBounds_toArray, List.set_cons_zero, List.set_cons_succ, Nat.reduceAdd]
          clear hd
          have f0 := hf 0 (by decide)
          generalize vals 0 = v0 at *
          subst f0
          have f1 := hf 1 (by decide)
          generalize vals 1 = v1 at *
          subst f1
          have f2 := hf 2 (by decide)
          generalize vals 2 = v2 at *
          subst f2
          have f3 := hf 3 (by decide)
          generalize vals 3 = v3 at *
          subst f3
          have f4 := hf 4 (by decide)
          generalize vals 4 = v4 at *
          subst f4
          have f5 := hf 5 (by decide)
          generalize vals 5 = v5 at *
          subst f5
          have f6 := hf 6 (by decide)
          generalize vals 6 = v6 at *
          subst f6
          have f7 := hf 7 (by decide)
          generalize vals 7 = v7 at *
          subst f7
          have f8 := hf 8 (by decide)
          generalize vals 8 = v8 at *
          subst f8
          have f9 := hf 9 (by decide)
          generalize vals 9 = v9 at *
          subst f9
          have f10 := hf 10 (by decide)
          generalize vals 10 = v10 at *
          subst f10
          have f11 := hf 11 (by decide)
          generalize vals 11 = v11 at *
          subst f11
          have f12 := hf 12 (by decide)
          generalize vals 12 = v12 at *
          subst f12
          have f13 := hf 13 (by decide)
          generalize vals 13 = v13 at *
          subst f13
          have f14 := hf 14 (by decide)
          generalize vals 14 = v14 at *
          subst f14
          have f15 := hf 15 (by decide)
          generalize vals 15 = v15 at *
          subst f15
          have f16 := hf 16 (by decide)
          generalize vals 16 = v16 at *
          subst f16
          have f17 := hf 17 (by decide)
          generalize vals 17 = v17 at *
          subst f17
          have f18 := hf 18 (by decide)
          generalize vals 18 = v18 at *
          subst f18
          have f19 := hf 19 (by decide)
          generalize vals 19 = v19 at *
          subst f19
          have f20 := hf 20 (by decide)
          generalize vals 20 = v20 at *
          subst f20
          have f21 := hf 21 (by decide)
          generalize vals 21 = v21 at *
          subst f21
          have f22 := hf 22 (by decide)
          generalize vals 22 = v22 at *
          subst f22
          have f23 := hf 23 (by decide)
          generalize vals 23 = v23 at *
          subst f23
          have f24 := hf 24 (by decide)
          generalize vals 24 = v24 at *
          subst f24
          clear hf
          have hc1 := cellOf hb1
          have hf1 := frozOf hb1
          have hz1 := sizeOf hb1
          try simp at hz1
          go_wp2_with (fail)
          go_roundw
          case rel =>
            refine ⟨k + 1, x, by omega, by go_num, (HS.out.trans (by rw [← HB.out, nearS, if_pos HQ.out])).symm, by unfold nearOk; omega, ?_, ?_, ?_, ?_, ?_, ?_, ?_, by (repeat' (first | exact Below.refl _ _ | assumption | refine Below.setCell ?_ ?_ _ | refine Below.drew ?_ | refine Below.alloc ?_ ?_ _ | refine Below.trans ?_ (Below.mono (by assumption) ?_) | (simp; done) | (simp; omega) | omega))⟩
            all_goals first | (simp [go_sem, ↓IntWalk.iteOmega, *]; done) | (intro o; simp [go_sem, ↓IntWalk.iteOmega, *]; done) | omega | (simp; omega) | (simp [go_sem, ↓IntWalk.iteOmega, *]; omega) | (intro o; simp [go_sem, ↓IntWalk.iteOmega, *]; intros; omega)
          case measure => simp [intOf]; omega
      · have HQ := hid (show ¬ (p ≤ x.2.2 ∧ (b.1 = 0 ∨ absI (x.2.1 - f) < absI (b.2.1 - f))) from fun h => h.2.elim hq2 hq3)
        go_wp2_with (fail)
        refine wp_region_w (n := 25) [] [] (FS24_7_36 i f t p r x b wr W2 w) rfl (by kernel_rfl) (fun _ _ d _ _ h => by cases d <;> exact h) ?_ ?_ ?_ ?_ ?_ ?_
        · intro iq
          match iq with
          | 0 | 1 | 2 | 3 | 4 | 5 | 6 | 7 | 8 | 9 | 10 | 11 | 12 | 13 | 14 | 15 | 16 | 17 | 18 | 19 | 20 | 21 | 22 | 23 | 24 => exact Stable.const _
          | n + 25 => exact Stable.const _
        · intro iq hi
          exact absurd hi (by simp)
        · intro iq hi
          exact absurd hi (by simp)
        · intro iq o hi hl ho vals w1 hb1 hf
          exact absurd hl (by simp)
        · intro iq o hi hl ho vals w1 hb1 hf
          match iq, hi with
          | 0, _ =>
            injection ho with ho
            subst ho
            clear hl
            simp only [fillA, List.take, List.drop, put_none, Act.put, List.setIfInBounds_toArray, List.set_cons_zero, List.set_cons_succ, Nat.reduceAdd]
            clear hf
            go_wp2_with (fail)
            exact RQ.mk rfl ⟨(by first | rfl | (simp [FS24_7_36]; done) | (simp [FS24_7_36, *]; done) | (simp [FS24_7_36, gotV]; done) | (simp [FS24_7_36, gotV]; omega)), fun h => absurd h (by decide)⟩ (Below.refl _ _)
          | 1, _ =>
            injection ho with ho
            subst ho
            clear hl
            simp only [fillA, List.take, List.drop, put_none, Act.put, List.setIfInBounds_toArray, List.set_cons_zero, List.set_cons_succ, Nat.reduceAdd]
            have f0 := hf 0 (by decide) (by kernel_rfl)
            generalize vals 0 = v0 at *
            subst f0
            clear hf
            have hc1 := cellOf hb1
            have hf1 := frozOf hb1
            have hz1 := sizeOf hb1
            try simp at hz1
            go_wp2_with (fail)
            exact RQ.mk rfl ⟨(by first | rfl | (simp [FS24_7_36]; done) | (simp [FS24_7_36, *]; done) | (simp [FS24_7_36, gotV]; done) | (simp [FS24_7_36, gotV]; omega)), fun h => absurd h (by decide)⟩ (Below.refl _ _)
          | 2, _ =>
            injection ho with ho
            subst ho
            clear hl
            simp only [fillA, List.take, List.drop, put_none, Act.put, List.setIfInBounds_toArray, List.set_cons_zero, List.set_cons_succ, Nat.reduceAdd]
            clear hf
            go_wp2_with (fail)
            exact RQ.mk rfl ⟨(by first | rfl | (simp [FS24_7_36]; done) | (simp [FS24_7_36, *]; done) | (simp [FS24_7_36, gotV]; done) | (simp [FS24_7_36, gotV]; omega)), fun h => absurd h (by decide)⟩ (Below.refl _ _)
          | 3, _ =>
            injection ho with ho
            subst ho
            clear hl
            simp only [fillA, List.take, List.drop, put_none, Act.put, List.setIfInBounds_toArray, List.set_cons_zero, List.set_cons_succ, Nat.reduceAdd]
            have f2 := hf 2 (by decide) (by kernel_rfl)
            generalize vals 2 = v2 at *
            subst f2
            clear hf
            have hc1 := cellOf hb1
            have hf1 := frozOf hb1
            have hz1 := sizeOf hb1
            try simp at hz1
            go_wp2_with (fail)
            exact RQ.mk rfl ⟨(by first | rfl | (simp [FS24_7_36]; done) | (simp [FS24_7_36, *]; done) | (simp [FS24_7_36, gotV]; done) | (simp [FS24_7_36, gotV]; omega)), fun h => absurd h (by decide)⟩ (Below.refl _ _)
          | 4, _ =>
            injection ho with ho
            subst ho
            clear hl
            simp only [fillA, List.take, List.drop, put_none, Act.put, List.setIfInBounds_toArray, List.set_cons_zero, List.set_cons_succ, Nat.reduceAdd]
            have f1 := hf 1 (by decide) (by kernel_rfl)
            generalize vals 1 = v1 at *
            subst f1
            have f3 := hf 3 (by decide) (by kernel_rfl)
            generalize vals 3 = v3 at *
            subst f3
            clear hf
            go_wp2_with (fail)
            exact RQ.mk rfl ⟨(by first | rfl | (simp [FS24_7_36]; done) | (simp [FS24_7_36, *]; done) | (simp [FS24_7_36, gotV]; done) | (simp [FS24_7_36, gotV]; omega)), fun h => absurd h (by decide)⟩ (Below.refl _ _)
          | 5, _ =>
            injection ho with ho
            subst ho
            clear hl
            simp only [fillA, List.take, List.drop, put_none, Act.put, List.setIfInBounds_toArray, List.set_cons_zero, List.set_cons_succ, Nat.reduceAdd]
            have f4 := hf 4 (by decide) (by kernel_rfl)
            generalize vals 4 = v4 at *
            subst f4
            clear hf
            go_wp2_with (fail)
            exact RQ.mk rfl ⟨(by first | rfl | (simp [FS24_7_36]; done) | (simp [FS24_7_36, *]; done) | (simp [FS24_7_36, gotV]; done) | (simp [FS24_7_36, gotV]; omega)), fun h => absurd h (by decide)⟩ (Below.refl _ _)
          | 6, _ =>
            injection ho with ho
            subst ho
            clear hl
            simp only [fillA, List.take, List.drop, put_none, Act.put, List.setIfInBounds_toArray, List.set_cons_zero, List.set_cons_succ, Nat.reduceAdd]
            have f5 := hf 5 (by decide) (by kernel_rfl)
            generalize vals 5 = v5 at *
            subst f5
            clear hf
            go_wp2_with (fail)
            exact RQ.mk rfl ⟨(by first | rfl | (simp [FS24_7_36]; done) | (simp [FS24_7_36, *]; done) | (simp [FS24_7_36, gotV]; done) | (simp [FS24_7_36, gotV]; omega)), fun h => absurd h (by decide)⟩ (Below.refl _ _)
          | 7, _ =>
            injection ho with ho
            subst ho
            clear hl
            simp only [fillA, List.take, List.drop, put_none, Act.put, List.setIfInBounds_toArray, List.set_cons_zero, List.set_cons_succ, Nat.reduceAdd]
            have f6 := hf 6 (by decide) (by kernel_rfl)
            generalize vals 6 = v6 at *
            subst f6
            have f5 := hf 5 (by decide) (by kernel_rfl)
            generalize vals 5 = v5 at *
            subst f5
            clear hf
            have hc1 := cellOf hb1
            have hf1 := frozOf hb1
            have hz1 := sizeOf hb1
            try simp at hz1
            go_wp2_with (fail)
            exact RQ.mk rfl ⟨(by first | rfl | (simp [FS24_7_36]; done) | (simp [FS24_7_36, *]; done) | (simp [FS24_7_36, gotV]; done) | (simp [FS24_7_36, gotV]; omega)), fun h => absurd h (by decide)⟩ (Below.refl _ _)
          | 8, _ =>
            injection ho with ho
            subst ho
            clear hl
            simp only [fillA, List.take, List.drop, put_none, Act.put, List.setIfInBounds_toArray, List.set_cons_zero, List.set_cons_succ, Nat.reduceAdd]
            have f7 := hf 7 (by decide) (by kernel_rfl)
            generalize vals 7 = v7 at *
            subst f7
            have f5 := hf 5 (by decide) (by kernel_rfl)
            generalize vals 5 = v5 at *
            subst f5
            clear hf
            go_wp2_with (fail)
            exact RQ.mk rfl ⟨(by first | rfl | (simp [FS24_7_36]; done) | (simp [FS24_7_36, *]; done) | (simp [FS24_7_36, gotV]; done) | (simp [FS24_7_36, gotV]; omega)), fun h => absurd h (by decide)⟩ (Below.refl _ _)
          | 9, _ =>
            injection ho with ho
            subst ho
            clear hl
            simp only [fillA, List.take, List.drop, put_none, Act.put, List.setIfInBounds_toArray, List.set_cons_zero, List.set_cons_succ, Nat.reduceAdd]
            have f8 := hf 8 (by decide) (by kernel_rfl)
            generalize vals 8 = v8 at *
            subst f8
            have f5 := hf 5 (by decide) (by kernel_rfl)
            generalize vals 5 = v5 at *
            subst f5
            clear hf
            go_wp2_with (fail)
            exact RQ.mk rfl ⟨(by first | rfl | (simp [FS24_7_36]; done) | (simp [FS24_7_36, *]; done) | (simp [FS24_7_36, gotV]; done) | (simp [FS24_7_36, gotV]; omega)), fun h => absurd h (by decide)⟩ (Below.refl _ _)
          | 10, _ =>
            injection ho with ho
            subst ho
            clear hl
            simp only [fillA, List.take, List.drop, put_none, Act.put, List.setIfInBounds_toArray, List.set_cons_zero, List.set_cons_succ, Nat.reduceAdd]
            have f9 := hf 9 (by decide) (by kernel_rfl)
            generalize vals 9 = v9 at *
            subst f9
            clear hf
            go_wp2_with (fail)
            exact RQ.mk rfl ⟨(by first | rfl | (simp [FS24_7_36]; done) | (simp [FS24_7_36, *]; done) | (simp [FS24_7_36, gotV]; done) | (simp [FS24_7_36, gotV]; omega)), fun h => absurd h (by decide)⟩ (Below.refl _ _)
          | 11, _ =>
            injection ho with ho
            subst ho
            clear hl
            simp only [fillA, List.take, List.drop, put_none, Act.put, List.setIfInBounds_toArray, List.set_cons_zero, List.set_cons_succ, Nat.reduceAdd]
            have f10 := hf 10 (by decide) (by kernel_rfl)
            generalize vals 10 = v10 at *
            subst f10
            have f9 := hf 9 (by decide) (by kernel_rfl)
            generalize vals 9 = v9 at *
            subst f9
            clear hf
            have hc1 := cellOf hb1
            have hf1 := frozOf hb1
            have hz1 := sizeOf hb1
            try simp at hz1
            go_wp2_with (fail)
            exact RQ.mk rfl ⟨(by first | rfl | (simp [FS24_7_36]; done) | (simp [FS24_7_36, *]; done) | (simp [FS24_7_36, gotV]; done) | (simp [FS24_7_36, gotV]; omega)), fun h => absurd h (by decide)⟩ (Below.refl _ _)
          | 12, _ =>
            injection ho with ho
            subst ho
            clear hl
            simp only [fillA, List.take, List.drop, put_none, Act.put, List.setIfInBounds_toArray, List.set_cons_zero, List.set_cons_succ, Nat.reduceAdd]
            have f9 := hf 9 (by decide) (by kernel_rfl)
            generalize vals 9 = v9 at *
            subst f9
            clear hf
            go_wp2_with (fail)
            exact RQ.mk rfl ⟨(by first | rfl | (simp [FS24_7_36]; done) | (simp [FS24_7_36, *]; done) | (simp [FS24_7_36, gotV]; done) | (simp [FS24_7_36, gotV]; omega)), fun h => absurd h (by decide)⟩ (Below.refl _ _)
          | 13, _ =>
            injection ho with ho
            subst ho
            clear hl
            simp only [fillA, List.take, List.drop, put_none, Act.put, List.setIfInBounds_toArray, List.set_cons_zero, List.set_cons_succ, Nat.reduceAdd]
            have f12 := hf 12 (by decide) (by kernel_rfl)
            generalize vals 12 = v12 at *
            subst f12
            have f9 := hf 9 (by decide) (by kernel_rfl)
            generalize vals 9 = v9 at *
            subst f9
            clear hf
            have hc1 := cellOf hb1
            have hf1 := frozOf hb1
            have hz1 := sizeOf hb1
            try simp at hz1
            go_wp2_with (fail)
            exact RQ.mk rfl ⟨(by first | rfl | (simp [FS24_7_36]; done) | (simp [FS24_7_36, *]; done) | (simp [FS24_7_36, gotV]; done) | (simp [FS24_7_36, gotV]; omega)), fun h => absurd h (by decide)⟩ (Below.refl _ _)
          | 14, _ =>
            injection ho with ho
            subst ho
            clear hl
            simp only [fillA, List.take, List.drop, put_none, Act.put, List.setIfInBounds_toArray, List.set_cons_zero, List.set_cons_succ, Nat.reduceAdd]
            have f11 := hf 11 (by decide) (by kernel_rfl)
            generalize vals 11 = v11 at *
            subst f11
            have f13 := hf 13 (by decide) (by kernel_rfl)
            generalize vals 13 = v13 at *
            subst f13
            have f9 := hf 9 (by decide) (by kernel_rfl)
            generalize vals 9 = v9 at *
            subst f9
            clear hf
            go_wp2_with (fail)
            exact RQ.mk rfl ⟨(by first | rfl | (simp [FS24_7_36]; done) | (simp [FS24_7_36, *]; done) | (simp [FS24_7_36, gotV]; done) | (simp [FS24_7_36, gotV]; omega)), fun h => absurd h (by decide)⟩ (Below.refl _ _)
          | 15, _ =>
            injection ho with ho
            subst ho
            clear hl
            simp only [fillA, List.take, List.drop, put_none, Act.put, List.setIfInBounds_toArray, List.set_cons_zero, List.set_cons_succ, Nat.reduceAdd]
            have f14 := hf 14 (by decide) (by kernel_rfl)
            generalize vals 14 = v14 at *
            subst f14
            have f9 := hf 9 (by decide) (by kernel_rfl)
            generalize vals 9 = v9 at *
            subst f9
            clear hf
            have hc1 := cellOf hb1
            have hf1 := frozOf hb1
            have hz1 := sizeOf hb1
            try simp at hz1
            go_wp2_with (first | (go_at_call 54; refine (c_absI _ _ (by omega)).mono ?_; rintro e w' ⟨rfl, hb⟩; have hc := cellOf hb; have hf := frozOf hb; have hz := sizeOf hb; try simp at hz))
            exact RQ.mk rfl ⟨(by first | rfl | (simp [FS24_7_36]; done) | (simp [FS24_7_36, *]; done) | (simp [FS24_7_36, gotV]; done) | (simp [FS24_7_36, gotV]; omega)), fun h => absurd h (by decide)⟩ (by (repeat' (first | exact Below.refl _ _ | assumption | refine Below.setCell ?_ ?_ _ | refine Below.drew ?_ | refine Below.alloc ?_ ?_ _ | refine Below.trans ?_ (Below.mono (by assumption) ?_) | (simp; done) | (simp; omega) | omega)))
          | 16, _ =>
            injection ho with ho
            subst ho
            clear hl
            simp only [fillA, List.take, List.drop, put_none, Act.put, List.setIfInBounds_toArray, List.set_cons_zero, List.set_cons_succ, Nat.reduceAdd]
            have f9 := hf 9 (by decide) (by kernel_rfl)
            generalize vals 9 = v9 at *
            subst f9
            clear hf
            go_wp2_with (fail)
            exact RQ.mk rfl ⟨(by first | rfl | (simp [FS24_7_36]; done) | (simp [FS24_7_36, *]; done) | (simp [FS24_7_36, gotV]; done) | (simp [FS24_7_36, gotV]; omega)), fun h => absurd h (by decide)⟩ (Below.refl _ _)
          | 17, _ =>
            injection ho with ho
            subst ho
            clear hl
            simp only [fillA, List.take, List.drop, put_none, Act.put, List.setIfInBounds_toArray, List.set_cons_zero, List.set_cons_succ, Nat.reduceAdd]
            have f16 := hf 16 (by decide) (by kernel_rfl)
            generalize vals 16 = v16 at *
            subst f16
            have f9 := hf 9 (by decide) (by kernel_rfl)
            generalize vals 9 = v9 at *
            subst f9
            clear hf
            have hc1 := cellOf hb1
            have hf1 := frozOf hb1
            have hz1 := sizeOf hb1
            try simp at hz1
            go_wp2_with (fail)
            exact RQ.mk rfl ⟨(by first | rfl | (simp [FS24_7_36]; done) | (simp [FS24_7_36, *]; done) | (simp [FS24_7_36, gotV]; done) | (simp [FS24_7_36, gotV]; omega)), fun h => absurd h (by decide)⟩ (Below.refl _ _)
          | 18, _ =>
            injection ho with ho
            subst ho
            clear hl
            simp only [fillA, List.take, List.drop, put_none, Act.put, List.setIfInBounds_toArray, List.set_cons_zero, List.set_cons_succ, Nat.reduceAdd]
            have f9 := hf 9 (by decide) (by kernel_rfl)
            generalize vals 9 = v9 at *
            subst f9
            clear hf
            go_wp2_with (fail)
            exact RQ.mk rfl ⟨(by first | rfl | (simp [FS24_7_36]; done) | (simp [FS24_7_36, *]; done) | (simp [FS24_7_36, gotV]; done) | (simp [FS24_7_36, gotV]; omega)), fun h => absurd h (by decide)⟩ (Below.refl _ _)
          | 19, _ =>
            injection ho with ho
            subst ho
            clear hl
            simp only [fillA, List.take, List.drop, put_none, Act.put, List.setIfInBounds_toArray, List.set_cons_zero, List.set_cons_succ, Nat.reduceAdd]
            have f18 := hf 18 (by decide) (by kernel_rfl)
            generalize vals 18 = v18 at *
            subst f18
            have f9 := hf 9 (by decide) (by kernel_rfl)
            generalize vals 9 = v9 at *
            subst f9
            clear hf
            have hc1 := cellOf hb1
            have hf1 := frozOf hb1
            have hz1 := sizeOf hb1
            try simp at hz1
            go_wp2_with (fail)
            exact RQ.mk rfl ⟨(by first | rfl | (simp [FS24_7_36]; done) | (simp [FS24_7_36, *]; done) | (simp [FS24_7_36, gotV]; done) | (simp [FS24_7_36, gotV]; omega)), fun h => absurd h (by decide)⟩ (Below.refl _ _)
          | 20, _ =>
            injection ho with ho
            subst ho
            clear hl
            simp only [fillA, List.take, List.drop, put_none, Act.put, List.setIfInBounds_toArray, List.set_cons_zero, List.set_cons_succ, Nat.reduceAdd]
            have f17 := hf 17 (by decide) (by kernel_rfl)
            generalize vals 17 = v17 at *
            subst f17
            have f19 := hf 19 (by decide) (by kernel_rfl)
            generalize vals 19 = v19 at *
            subst f19
            have f9 := hf 9 (by decide) (by kernel_rfl)
            generalize vals 9 = v9 at *
            subst f9
            clear hf
            go_wp2_with (fail)
            exact RQ.mk rfl ⟨(by first | rfl | (simp [FS24_7_36]; done) | (simp [FS24_7_36, *]; done) | (simp [FS24_7_36, gotV]; done) | (simp [FS24_7_36, gotV]; omega)), fun h => absurd h (by decide)⟩ (Below.refl _ _)
          | 21, _ =>
            injection ho with ho
            subst ho
            clear hl
            simp only [fillA, List.take, List.drop, put_none, Act.put, List.setIfInBounds_toArray, List.set_cons_zero, List.set_cons_succ, Nat.reduceAdd]
            have f20 := hf 20 (by decide) (by kernel_rfl)
            generalize vals 20 = v20 at *
            subst f20
            have f15 := hf 15 (by decide) (by kernel_rfl)
            generalize vals 15 = v15 at *
            subst f15
            have f9 := hf 9 (by decide) (by kernel_rfl)
            generalize vals 9 = v9 at *
            subst f9
            clear hf
            have hc1 := cellOf hb1
            have hf1 := frozOf hb1
            have hz1 := sizeOf hb1
            try simp at hz1
            go_wp2_with (first | (go_at_call 54; refine (c_absI _ _ (by omega)).mono ?_; rintro e w' ⟨rfl, hb⟩; have hc := cellOf hb; have hf := frozOf hb; have hz := sizeOf hb; try simp at hz))
            exact RQ.mk rfl ⟨(by first | rfl | (simp [FS24_7_36]; done) | (simp [FS24_7_36, *]; done) | (simp [FS24_7_36, gotV]; done) | (simp [FS24_7_36, gotV]; omega)), fun h => absurd h (by decide)⟩ (by (repeat' (first | exact Below.refl _ _ | assumption | refine Below.setCell ?_ ?_ _ | refine Below.drew ?_ | refine Below.alloc ?_ ?_ _ | refine Below.trans ?_ (Below.mono (by assumption) ?_) | (simp; done) | (simp; omega) | omega)))
          | 22, _ =>
            injection ho with ho
            subst ho
            clear hl
            simp only [fillA, List.take, List.drop, put_none, Act.put, List.setIfInBounds_toArray, List.set_cons_zero, List.set_cons_succ, Nat.reduceAdd]
            have f15 := hf 15 (by decide) (by kernel_rfl)
            generalize vals 15 = v15 at *
            subst f15
            have f21 := hf 21 (by decide) (by kernel_rfl)
            generalize vals 21 = v21 at *
            subst f21
            have f9 := hf 9 (by decide) (by kernel_rfl)
            generalize vals 9 = v9 at *
            subst f9
            clear hf
            go_wp2_with (fail)
            exact RQ.mk rfl ⟨(by first | rfl | (simp [FS24_7_36]; done) | (simp [FS24_7_36, *]; done) | (simp [FS24_7_36, gotV]; done) | (simp [FS24_7_36, gotV]; omega)), fun h => absurd h (by decide)⟩ (Below.refl _ _)
          | 23, _ =>
            injection ho with ho
            subst ho
            clear hl
            simp only [fillA, List.take, List.drop, put_none, Act.put, List.setIfInBounds_toArray, List.set_cons_zero, List.set_cons_succ, Nat.reduceAdd]
            have f9 := hf 9 (by decide) (by kernel_rfl)
            generalize vals 9 = v9 at *
            subst f9
            have f22 := hf 22 (by decide) (by kernel_rfl)
            generalize vals 22 = v22 at *
            subst f22
            have f5 := hf 5 (by decide) (by kernel_rfl)
            generalize vals 5 = v5 at *
            subst f5
            clear hf
            go_wp2_with (fail)
            exact RQ.mk rfl ⟨(by first | rfl | (simp [FS24_7_36]; done) | (simp [FS24_7_36, *]; done) | (simp [FS24_7_36, gotV]; done) | (simp [FS24_7_36, gotV]; omega)), fun h => absurd h (by decide)⟩ (Below.refl _ _)
          | 24, _ =>
            injection ho with ho
            subst ho
            clear hl
            simp only [fillA, List.take, List.drop, put_none, Act.put, List.setIfInBounds_toArray, List.set_cons_zero, List.set_cons_succ, Nat.reduceAdd]
            have f5 := hf 5 (by decide) (by kernel_rfl)
            generalize vals 5 = v5 at *
            subst f5
            have f23 := hf 23 (by decide) (by kernel_rfl)
            generalize vals 23 = v23 at *
            subst f23
            clear hf
            go_wp2_with (fail)
            exact RQ.mk rfl ⟨(by first | rfl | (simp [FS24_7_36]; done) | (simp [FS24_7_36, *]; done) | (simp [FS24_7_36, gotV]; done) | (simp [FS24_7_36, gotV]; omega)), fun h => absurd h (by decide)⟩ (Below.refl _ _)
          | m + 25, h => exact absurd h (by omega)
        · intro vals w1 hb1 hf hd
          simp only [fillA, List.take, List.drop, put_none, Act.put, List.setIfInBounds_toArray, List.set_cons_zero, List.set_cons_succ, Nat.reduceAdd]
          clear hd
          have f0 := hf 0 (by decide)
          generalize vals 0 = v0 at *
          subst f0
          have f1 := hf 1 (by decide)
          generalize vals 1 = v1 at *
          subst f1
          have f2 := hf 2 (by decide)
          generalize vals 2 = v2 at *
          subst f2
          have f3 := hf 3 (by decide)
          generalize vals 3 = v3 at *
          subst f3
          have f4 := hf 4 (by decide)
          generalize vals 4 = v4 at *
          subst f4
          have f5 := hf 5 (by decide)
          generalize vals 5 = v5 at *
          subst f5
          have f6 := hf 6 (by decide)
          generalize vals 6 = v6 at *
          subst f6
          have f7 := hf 7 (by decide)
          generalize vals 7 = v7 at *
          subst f7
          have f8 := hf 8 (by decide)
          generalize vals 8 = v8 at *
          subst f8
          have f9 := hf 9 (by decide)
          generalize vals 9 = v9 at *
          subst f9
          have f10 := hf 10 (by decide)
          generalize vals 10 = v10 at *
          subst f10
          have f11 := hf 11 (by decide)
          generalize vals 11 = v11 at *
          subst f11
          have f12 := hf 12 (by decide)
          generalize vals 12 = v12 at *
          subst f12
          have f13 := hf 13 (by decide)
          generalize vals 13 = v13 at *
          subst f13
          have f14 := hf 14 (by decide)
          generalize vals 14 = v14 at *
          subst f14
          have f15 := hf 15 (by decide)
          generalize vals 15 = v15 at *
          subst f15
          have f16 := hf 16 (by decide)
          generalize vals 16 = v16 at *
          subst f16
          have f17 := hf 17 (by decide)
          generalize vals 17 = v17 at *
          subst f17
          have f18 := hf 18 (by decide)
          generalize vals 18 = v18 at *
          subst f18
          have f19 := hf 19 (by decide)
          generalize vals 19 = v19 at *
          subst f19
          have f20 := hf 20 (by decide)
          generalize vals 20 = v20 at *
          subst f20
          have f21 := hf 21 (by decide)
          generalize vals 21 = v21 at *
          subst f21
          have f22 := hf 22 (by decide)
          generalize vals 22 = v22 at *
          subst f22
          have f23 := hf 23 (by decide)
          generalize vals 23 = v23 at *
          subst f23
          have f24 := hf 24 (by decide)
          generalize vals 24 = v24 at *
          subst f24
          clear hf
          have hc1 := cellOf hb1
          have hf1 := frozOf hb1
          have hz1 := sizeOf hb1
          try simp at hz1
          go_wp2_with (fail)
          go_roundw
          case rel =>
            refine ⟨k + 1, b, by omega, by go_num, (HS.out.trans (by rw [← HB.out, nearS, if_neg HQ.out])).symm, by unfold nearOk; omega, ?_, ?_, ?_, ?_, ?_, ?_, ?_, by (repeat' (first | exact Below.refl _ _ | assumption | refine Below.setCell ?_ ?_ _ | refine Below.drew ?_ | refine Below.alloc ?_ ?_ _ | refine Below.trans ?_ (Below.mono (by assumption) ?_) | (simp; done) | (simp; omega) | omega))⟩
            all_goals first | (simp [go_sem, ↓IntWalk.iteOmega, *]; done) | (intro o; simp [go_sem, ↓IntWalk.iteOmega, *]; done) | omega | (simp; omega) | (simp [go_sem, ↓IntWalk.iteOmega, *]; omega) | (intro o; simp [go_sem, ↓IntWalk.iteOmega, *]; intros; omega)
          case measure => simp [intOf]; omega
    · obtain rfl : k = xs.length := by omega
      rw [List.take_length] at hbe
      have HF : Hid (nearF xs f p = b) := hbe.symm
      clear hbe hc hf hx
      go_wp2_with (fail)
      go_region
      all_goals go_wp2_with (fail)
      all_goals go_ret2
      all_goals exact ⟨by first | (rw [HV.out, HF.out]; done) | (rw [HV.out, HF.out]; rfl) | (simp [HV.out, HF.out]), by (repeat' (first | exact Below.refl _ _ | assumption | refine Below.setCell ?_ ?_ _ | refine Below.drew ?_ | refine Below.alloc ?_ ?_ _ | refine Below.trans ?_ (Below.mono (by assumption) ?_) | (simp; done) | (simp; omega) | omega))⟩

end Go.Proofs.Ytipipicfkjigdaa
