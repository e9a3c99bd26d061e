import Derived.Test.YtfipmalomhflgaaH1i
import Derived.Test.YtfipmalomhflgaaB9c
namespace Go.Proofs.Ytfipmalomhflgaa
set_option linter.unusedSimpArgs false
set_option linter.unusedVariables false
open Go.RowKit

def FS28_2 (q : Int) (xs : List (Int × Int × Int × Int × Int)) (h : Int) (n0 cap : Nat) (A : Option Addr) (gi : Int) (w W0 : World) (iq : Nat) (v : Value) (w1 : World) : Prop := match iq with
  | 0 => v = .int .i64 (q)
  | 1 => v = .slice A n0 cap
  | 2 => v = .bool (false)
  | 3 => v = .bool (true)
  | 4 => v = .bool (true)
  | 5 => v = undef
  | 6 => v = undef
  | 7 => v = .bool (true)
  | 8 => v = .bool (true)
  | 9 => v = undef
  | 10 => v = undef
  | 11 => v = undef
  | 12 => v = undef
  | 13 => v = undef
  | 14 => v = undef
  | 15 => v = undef
  | 16 => v = undef
  | 17 => v = undef
  | 18 => v = undef
  | 19 => v = undef
  | 20 => v = undef
  | 21 => v = undef
  | 22 => v = undef
  | 23 => v = undef
  | 24 => v = .bool (true)
  | _ => True

def FS28_2_19 (q : Int) (xs : List (Int × Int × Int × Int × Int)) (h : Int) (n0 cap : Nat) (A : Option Addr) (w W0 : World) (iq : Nat) (v : Value) (w1 : World) : Prop := match iq with
  | 0 => v = .int .i64 (q)
  | 1 => v = .slice A n0 cap
  | 2 => v = .bool (true)
  | 3 => v = .bool (false)
  | 4 => v = .bool (false)
  | 5 => v = .int .i64 (-1)
  | 6 => v = .bool (true)
  | 7 => v = .bool (true)
  | 8 => v = .bool (true)
  | 9 => v = undef
  | 10 => v = undef
  | 11 => v = undef
  | 12 => v = undef
  | 13 => v = undef
  | 14 => v = undef
  | 15 => v = undef
  | 16 => v = undef
  | 17 => v = undef
  | 18 => v = undef
  | 19 => v = undef
  | 20 => v = undef
  | 21 => v = undef
  | 22 => v = undef
  | 23 => v = undef
  | 24 => v = .bool (true)
  | _ => True

def FS28_2_20 (q : Int) (xs : List (Int × Int × Int × Int × Int)) (h : Int) (n0 cap : Nat) (x : Int × Int × Int × Int × Int) (k bx ox : Nat) (w W0 : World) (iq : Nat) (v : Value) (w1 : World) : Prop := match iq with
  | 0 => v = .int .i64 (q)
  | 1 => v = .slice (some ⟨bx, ox, none⟩) n0 cap
  | 2 => v = .bool (true)
  | 3 => v = .bool (false)
  | 4 => v = .bool (false)
  | 5 => v = .int .i64 (k)
  | 6 => v = .bool (false)
  | 7 => v = .bool (false)
  | 8 => v = .bool (false)
  | 9 => v = .int .i64 (h)
  | 10 => v = .slice (some ⟨bx, ox, none⟩) n0 cap
  | 11 => v = .int .i64 (k)
  | 12 => v = .pointer (some ⟨bx, ox + k * 5, none⟩)
  | 13 => v = .pointer (some ⟨bx, ox + k * 5 + 3, none⟩)
  | 14 => v = .int .i64 (x.2.2.2.1)
  | 15 => v = .int .i64 (x.2.2.2.1 + 1)
  | 16 => v = .slice (some ⟨bx, ox, none⟩) n0 cap
  | 17 => v = .int .i64 (k)
  | 18 => v = .pointer (some ⟨bx, ox + k * 5, none⟩)
  | 19 => v = .pointer (some ⟨bx, ox + k * 5 + 4, none⟩)
  | 20 => v = .int .i64 (x.2.2.2.2)
  | 21 => v = .int .i64 (x.2.2.2.2 - 1)
  | 22 => v = .bool (false)
  | 23 => v = .bool (true)
  | 24 => v = .bool (true)
  | _ => True

def FS28_2_21 (q : Int) (xs : List (Int × Int × Int × Int × Int)) (h : Int) (n0 cap : Nat) (x : Int × Int × Int × Int × Int) (k bx ox : Nat) (w W0 : World) (iq : Nat) (v : Value) (w1 : World) : Prop := match iq with
  | 0 => v = .int .i64 (q)
  | 1 => v = .slice (some ⟨bx, ox, none⟩) n0 cap
  | 2 => v = .bool (true)
  | 3 => v = .bool (false)
  | 4 => v = .bool (false)
  | 5 => v = .int .i64 (k)
  | 6 => v = .bool (false)
  | 7 => v = .bool (false)
  | 8 => v = .bool (false)
  | 9 => v = .int .i64 (h)
  | 10 => v = .slice (some ⟨bx, ox, none⟩) n0 cap
  | 11 => v = .int .i64 (k)
  | 12 => v = .pointer (some ⟨bx, ox + k * 5, none⟩)
  | 13 => v = .pointer (some ⟨bx, ox + k * 5 + 3, none⟩)
  | 14 => v = .int .i64 (x.2.2.2.1)
  | 15 => v = .int .i64 (x.2.2.2.1 + 1)
  | 16 => v = .slice (some ⟨bx, ox, none⟩) n0 cap
  | 17 => v = .int .i64 (k)
  | 18 => v = .pointer (some ⟨bx, ox + k * 5, none⟩)
  | 19 => v = .pointer (some ⟨bx, ox + k * 5 + 4, none⟩)
  | 20 => v = .int .i64 (x.2.2.2.2)
  | 21 => v = .int .i64 (x.2.2.2.2 - 1)
  | 22 => v = .bool (true)
  | 23 => v = .bool (false)
  | 24 => v = .bool (false)
  | _ => True

set_option maxRecDepth 100000 in
set_option maxHeartbeats 4000000 in
theorem c_impl_LeaveEarly (q : Int) (A : Option Addr) (xs : List (Int × Int × Int × Int × Int)) (cap : Nat) (z h : Int) (w : World) (hx : Rds cBer 5 w A xs) (hn : xs.length ≤ 9223372036854775807) (hcap : xs.length ≤ cap) (hmax : cap ≤ 4611686018427387904) :
    Calls Try.prog 28 #[.int .i64 q, .slice A xs.length cap, .int .i64 z, .int .i64 h] w fun e w' => ∃ A' cap', e = .returned (.tuple #[.slice A' (leaveV q xs z h).1.length cap', .bool (leaveV q xs z h).2]) ∧ FreshA cBer 5 48 w.heap.size w' A' cap' (leaveV q xs z h).1 ∧ Below w.heap.size w w' := by
  obtain ⟨i0, hI0, hI1, hI2, hI3⟩ := info_parts info_Ber
  by_cases hs0 : berV q xs = true
  rotate_left
  · have hn0 : berV q xs = false := Bool.eq_false_iff.2 hs0
    have HV := hid (leaveV_no (z := z) (h := h) hn0)
    clear hs0
    generalize hgi : idxF (sameB z) xs = gi
    go_enter Try.func28, Try.ntmps28
    go_wp2_with (first | (go_at_call 62; refine (c_idx_same _ _ _ z w.heap.size _ (by first | assumption | exact Rds.below hx (by (repeat' (first | exact Below.refl _ _ | assumption | refine Below.setCell ?_ ?_ _ | refine Below.drew ?_ | refine Below.alloc ?_ ?_ _ | refine Below.trans ?_ (Below.mono (by assumption) ?_) | (simp; done) | (simp; omega) | omega)))) (by omega) (by first | assumption | (simp [go_sem, ↓IntWalk.iteOmega, *]; done)) (by first | omega | (simp; done) | (simp; omega))).mono ?_; rintro e w' ⟨rfl, hb⟩; have hc := cellOf hb; have hf := frozOf hb; have hz := sizeOf hb; try simp at hz))
    refine wp_region_w (n := 25) [] [] (FS28_2 q xs h xs.length cap A gi w) rfl (by kernel_rfl) (fun _ _ d _ _ h => by cases d <;> exact h) ?_ ?_ ?_ ?_ ?_ ?_
    · intro iq
      match iq with
      | 0 | 1 | 2 | 3 | 4 | 5 | 6 | 7 | 8 | 9 | 10 | 11 | 12 | 13 | 14 | 15 | 16 | 17 | 18 | 19 | 20 | 21 | 22 | 23 | 24 => exact Stable.const _
      | n + 25 => exact Stable.const _
    · intro iq hi
      exact absurd hi (by simp)
    · intro iq hi
      exact absurd hi (by simp)
    · intro iq o hi hl ho vals w1 hb1 hf
      exact absurd hl (by simp)
    · intro iq o hi hl ho vals w1 hb1 hf
      match iq, hi with
      | 0, _ =>
        injection ho with ho
        subst ho
        clear hl
        simp only [fillA, List.take, List.drop, put_none, Act.put, List.setIfInBounds_toArray, List.set_cons_zero, List.set_cons_succ, Nat.reduceAdd]
        clear hf
        go_wp2_with (fail)
        exact RQ.mk rfl ⟨(by first | rfl | (simp [FS28_2]; done) | (simp [FS28_2, *]; done) | (simp [FS28_2, gotV]; done) | (simp [FS28_2, gotV]; omega)), fun h => absurd h (by decide)⟩ (Below.refl _ _)
      | 1, _ =>
        injection ho with ho
        subst ho
        clear hl
        simp only [fillA, List.take, List.drop, put_none, Act.put, List.setIfInBounds_toArray, List.set_cons_zero, List.set_cons_succ, Nat.reduceAdd]
        clear hf
        go_wp2_with (fail)
        exact RQ.mk rfl ⟨(by first | rfl | (simp [FS28_2]; done) | (simp [FS28_2, *]; done) | (simp [FS28_2, gotV]; done) | (simp [FS28_2, gotV]; omega)), fun h => absurd h (by decide)⟩ (Below.refl _ _)
      | 2, _ =>
        injection ho with ho
        subst ho
        clear hl
        simp only [fillA, List.take, List.drop, put_none, Act.put, List.setIfInBounds_toArray, List.set_cons_zero, List.set_cons_succ, Nat.reduceAdd]
        have f0 := hf 0 (by decide) (by kernel_rfl)
        generalize vals 0 = v0 at *
        subst f0
        have f1 := hf 1 (by decide) (by kernel_rfl)
        generalize vals 1 = v1 at *
        subst f1
        clear hf
        have hc1 := cellOf hb1
        have hf1 := frozOf hb1
        have hz1 := sizeOf hb1
        try simp at hz1
        go_wp2_with (first | (go_at_call 17; refine (c_impl_IsBerthing _ _ _ _ _ (by first | assumption | exact Rds.below hx (by (repeat' (first | exact Below.refl _ _ | assumption | refine Below.setCell ?_ ?_ _ | refine Below.drew ?_ | refine Below.alloc ?_ ?_ _ | refine Below.trans ?_ (Below.mono (by assumption) ?_) | (simp; done) | (simp; omega) | omega)))) (by omega) (by omega) (by omega)).mono ?_; rintro e w' ⟨rfl, hb⟩; have hc := cellOf hb; have hf := frozOf hb; have hz := sizeOf hb; try simp at hz))
        exact RQ.mk rfl ⟨(by first | rfl | (simp [FS28_2]; done) | (simp [FS28_2, *]; done) | (simp [FS28_2, gotV]; done) | (simp [FS28_2, gotV]; omega)), fun h => absurd h (by decide)⟩ (by (repeat' (first | exact Below.refl _ _ | assumption | refine Below.setCell ?_ ?_ _ | refine Below.drew ?_ | refine Below.alloc ?_ ?_ _ | refine Below.trans ?_ (Below.mono (by assumption) ?_) | (simp; done) | (simp; omega) | omega)))
      | 3, _ =>
        injection ho with ho
        subst ho
        clear hl
        simp only [fillA, List.take, List.drop, put_none, Act.put, List.setIfInBounds_toArray, List.set_cons_zero, List.set_cons_succ, Nat.reduceAdd]
        have f2 := hf 2 (by decide) (by kernel_rfl)
        generalize vals 2 = v2 at *
        subst f2
        clear hf
        go_wp2_with (fail)
        exact RQ.mk rfl ⟨(by first | rfl | (simp [FS28_2]; done) | (simp [FS28_2, *]; done) | (simp [FS28_2, gotV]; done) | (simp [FS28_2, gotV]; omega)), fun h => absurd h (by decide)⟩ (Below.refl _ _)
      | 4, _ =>
        injection ho with ho
        subst ho
        clear hl
        simp only [fillA, List.take, List.drop, put_none, Act.put, List.setIfInBounds_toArray, List.set_cons_zero, List.set_cons_succ, Nat.reduceAdd]
        have f3 := hf 3 (by decide) (by kernel_rfl)
        generalize vals 3 = v3 at *
        subst f3
        have f2 := hf 2 (by decide) (by kernel_rfl)
        generalize vals 2 = v2 at *
        subst f2
        clear hf
        go_wp2_with (fail)
        exact RQ.mk rfl ⟨(by first | rfl | (simp [FS28_2]; done) | (simp [FS28_2, *]; done) | (simp [FS28_2, gotV]; done) | (simp [FS28_2, gotV]; omega)), fun h => absurd h (by decide)⟩ (Below.refl _ _)
      | 5, _ =>
        injection ho with ho
        subst ho
        clear hl
        simp only [fillA, List.take, List.drop, put_none, Act.put, List.setIfInBounds_toArray, List.set_cons_zero, List.set_cons_succ, Nat.reduceAdd]
        have f4 := hf 4 (by decide) (by kernel_rfl)
        generalize vals 4 = v4 at *
        subst f4
        clear hf
        go_wp2_with (fail)
        exact RQ.mk rfl ⟨(by first | rfl | (simp [FS28_2]; done) | (simp [FS28_2, *]; done) | (simp [FS28_2, gotV]; done) | (simp [FS28_2, gotV]; omega)), fun h => absurd h (by decide)⟩ (Below.refl _ _)
      | 6, _ =>
        injection ho with ho
        subst ho
        clear hl
        simp only [fillA, List.take, List.drop, put_none, Act.put, List.setIfInBounds_toArray, List.set_cons_zero, List.set_cons_succ, Nat.reduceAdd]
        have f5 := hf 5 (by decide) (by kernel_rfl)
        generalize vals 5 = v5 at *
        subst f5
        have f4 := hf 4 (by decide) (by kernel_rfl)
        generalize vals 4 = v4 at *
        subst f4
        clear hf
        go_wp2_with (fail)
        exact RQ.mk rfl ⟨(by first | rfl | (simp [FS28_2]; done) | (simp [FS28_2, *]; done) | (simp [FS28_2, gotV]; done) | (simp [FS28_2, gotV]; omega)), fun h => absurd h (by decide)⟩ (Below.refl _ _)
      | 7, _ =>
        injection ho with ho
        subst ho
        clear hl
        simp only [fillA, List.take, List.drop, put_none, Act.put, List.setIfInBounds_toArray, List.set_cons_zero, List.set_cons_succ, Nat.reduceAdd]
        have f4 := hf 4 (by decide) (by kernel_rfl)
        generalize vals 4 = v4 at *
        subst f4
        have f6 := hf 6 (by decide) (by kernel_rfl)
        generalize vals 6 = v6 at *
        subst f6
        clear hf
        go_wp2_with (fail)
        exact RQ.mk rfl ⟨(by first | rfl | (simp [FS28_2]; done) | (simp [FS28_2, *]; done) | (simp [FS28_2, gotV]; done) | (simp [FS28_2, gotV]; omega)), fun h => absurd h (by decide)⟩ (Below.refl _ _)
      | 8, _ =>
        injection ho with ho
        subst ho
        clear hl
        simp only [fillA, List.take, List.drop, put_none, Act.put, List.setIfInBounds_toArray, List.set_cons_zero, List.set_cons_succ, Nat.reduceAdd]
        have f7 := hf 7 (by decide) (by kernel_rfl)
        generalize vals 7 = v7 at *
        subst f7
        have f4 := hf 4 (by decide) (by kernel_rfl)
        generalize vals 4 = v4 at *
        subst f4
        clear hf
        go_wp2_with (fail)
        exact RQ.mk rfl ⟨(by first | rfl | (simp [FS28_2]; done) | (simp [FS28_2, *]; done) | (simp [FS28_2, gotV]; done) | (simp [FS28_2, gotV]; omega)), fun h => absurd h (by decide)⟩ (Below.refl _ _)
      | 9, _ =>
        injection ho with ho
        subst ho
        clear hl
        simp only [fillA, List.take, List.drop, put_none, Act.put, List.setIfInBounds_toArray, List.set_cons_zero, List.set_cons_succ, Nat.reduceAdd]
        have f8 := hf 8 (by decide) (by kernel_rfl)
        generalize vals 8 = v8 at *
        subst f8
        clear hf
        go_wp2_with (fail)
        exact RQ.mk rfl ⟨(by first | rfl | (simp [FS28_2]; done) | (simp [FS28_2, *]; done) | (simp [FS28_2, gotV]; done) | (simp [FS28_2, gotV]; omega)), fun h => absurd h (by decide)⟩ (Below.refl _ _)
      | 10, _ =>
        injection ho with ho
        subst ho
        clear hl
        simp only [fillA, List.take, List.drop, put_none, Act.put, List.setIfInBounds_toArray, List.set_cons_zero, List.set_cons_succ, Nat.reduceAdd]
        have f8 := hf 8 (by decide) (by kernel_rfl)
        generalize vals 8 = v8 at *
        subst f8
        clear hf
        go_wp2_with (fail)
        exact RQ.mk rfl ⟨(by first | rfl | (simp [FS28_2]; done) | (simp [FS28_2, *]; done) | (simp [FS28_2, gotV]; done) | (simp [FS28_2, gotV]; omega)), fun h => absurd h (by decide)⟩ (Below.refl _ _)
      | 11, _ =>
        injection ho with ho
        subst ho
        clear hl
        simp only [fillA, List.take, List.drop, put_none, Act.put, List.setIfInBounds_toArray, List.set_cons_zero, List.set_cons_succ, Nat.reduceAdd]
        have f8 := hf 8 (by decide) (by kernel_rfl)
        generalize vals 8 = v8 at *
        subst f8
        clear hf
        go_wp2_with (fail)
        exact RQ.mk rfl ⟨(by first | rfl | (simp [FS28_2]; done) | (simp [FS28_2, *]; done) | (simp [FS28_2, gotV]; done) | (simp [FS28_2, gotV]; omega)), fun h => absurd h (by decide)⟩ (Below.refl _ _)
      | 12, _ =>
        injection ho with ho
        subst ho
        clear hl
        simp only [fillA, List.take, List.drop, put_none, Act.put, List.setIfInBounds_toArray, List.set_cons_zero, List.set_cons_succ, Nat.reduceAdd]
        have f10 := hf 10 (by decide) (by kernel_rfl)
        generalize vals 10 = v10 at *
        subst f10
        have f11 := hf 11 (by decide) (by kernel_rfl)
        generalize vals 11 = v11 at *
        subst f11
        have f8 := hf 8 (by decide) (by kernel_rfl)
        generalize vals 8 = v8 at *
        subst f8
        clear hf
        go_wp2_with (fail)
        exact RQ.mk rfl ⟨(by first | rfl | (simp [FS28_2]; done) | (simp [FS28_2, *]; done) | (simp [FS28_2, gotV]; done) | (simp [FS28_2, gotV]; omega)), fun h => absurd h (by decide)⟩ (Below.refl _ _)
      | 13, _ =>
        injection ho with ho
        subst ho
        clear hl
        simp only [fillA, List.take, List.drop, put_none, Act.put, List.setIfInBounds_toArray, List.set_cons_zero, List.set_cons_succ, Nat.reduceAdd]
        have f12 := hf 12 (by decide) (by kernel_rfl)
        generalize vals 12 = v12 at *
        subst f12
        have f8 := hf 8 (by decide) (by kernel_rfl)
        generalize vals 8 = v8 at *
        subst f8
        clear hf
        go_wp2_with (fail)
        exact RQ.mk rfl ⟨(by first | rfl | (simp [FS28_2]; done) | (simp [FS28_2, *]; done) | (simp [FS28_2, gotV]; done) | (simp [FS28_2, gotV]; omega)), fun h => absurd h (by decide)⟩ (Below.refl _ _)
      | 14, _ =>
        injection ho with ho
        subst ho
        clear hl
        simp only [fillA, List.take, List.drop, put_none, Act.put, List.setIfInBounds_toArray, List.set_cons_zero, List.set_cons_succ, Nat.reduceAdd]
        have f13 := hf 13 (by decide) (by kernel_rfl)
        generalize vals 13 = v13 at *
        subst f13
        have f8 := hf 8 (by decide) (by kernel_rfl)
        generalize vals 8 = v8 at *
        subst f8
        clear hf
        go_wp2_with (fail)
        exact RQ.mk rfl ⟨(by first | rfl | (simp [FS28_2]; done) | (simp [FS28_2, *]; done) | (simp [FS28_2, gotV]; done) | (simp [FS28_2, gotV]; omega)), fun h => absurd h (by decide)⟩ (Below.refl _ _)
      | 15, _ =>
        injection ho with ho
        subst ho
        clear hl
        simp only [fillA, List.take, List.drop, put_none, Act.put, List.setIfInBounds_toArray, List.set_cons_zero, List.set_cons_succ, Nat.reduceAdd]
        have f14 := hf 14 (by decide) (by kernel_rfl)
        generalize vals 14 = v14 at *
        subst f14
        have f8 := hf 8 (by decide) (by kernel_rfl)
        generalize vals 8 = v8 at *
        subst f8
        clear hf
        go_wp2_with (fail)
        exact RQ.mk rfl ⟨(by first | rfl | (simp [FS28_2]; done) | (simp [FS28_2, *]; done) | (simp [FS28_2, gotV]; done) | (simp [FS28_2, gotV]; omega)), fun h => absurd h (by decide)⟩ (Below.refl _ _)
      | 16, _ =>
        injection ho with ho
        subst ho
        clear hl
        simp only [fillA, List.take, List.drop, put_none, Act.put, List.setIfInBounds_toArray, List.set_cons_zero, List.set_cons_succ, Nat.reduceAdd]
        have f8 := hf 8 (by decide) (by kernel_rfl)
        generalize vals 8 = v8 at *
        subst f8
        clear hf
        go_wp2_with (fail)
        exact RQ.mk rfl ⟨(by first | rfl | (simp [FS28_2]; done) | (simp [FS28_2, *]; done) | (simp [FS28_2, gotV]; done) | (simp [FS28_2, gotV]; omega)), fun h => absurd h (by decide)⟩ (Below.refl _ _)
      | 17, _ =>
        injection ho with ho
        subst ho
        clear hl
        simp only [fillA, List.take, List.drop, put_none, Act.put, List.setIfInBounds_toArray, List.set_cons_zero, List.set_cons_succ, Nat.reduceAdd]
        have f8 := hf 8 (by decide) (by kernel_rfl)
        generalize vals 8 = v8 at *
        subst f8
        clear hf
        go_wp2_with (fail)
        exact RQ.mk rfl ⟨(by first | rfl | (simp [FS28_2]; done) | (simp [FS28_2, *]; done) | (simp [FS28_2, gotV]; done) | (simp [FS28_2, gotV]; omega)), fun h => absurd h (by decide)⟩ (Below.refl _ _)
      | 18, _ =>
        injection ho with ho
        subst ho
        clear hl
        simp only [fillA, List.take, List.drop, put_none, Act.put, List.setIfInBounds_toArray, List.set_cons_zero, List.set_cons_succ, Nat.reduceAdd]
        have f16 := hf 16 (by decide) (by kernel_rfl)
        generalize vals 16 = v16 at *
        subst f16
        have f17 := hf 17 (by decide) (by kernel_rfl)
        generalize vals 17 = v17 at *
        subst f17
        have f8 := hf 8 (by decide) (by kernel_rfl)
        generalize vals 8 = v8 at *
        subst f8
        clear hf
        go_wp2_with (fail)
        exact RQ.mk rfl ⟨(by first | rfl | (simp [FS28_2]; done) | (simp [FS28_2, *]; done) | (simp [FS28_2, gotV]; done) | (simp [FS28_2, gotV]; omega)), fun h => absurd h (by decide)⟩ (Below.refl _ _)
      | 19, _ =>
        injection ho with ho
        subst ho
        clear hl
        simp only [fillA, List.take, List.drop, put_none, Act.put, List.setIfInBounds_toArray, List.set_cons_zero, List.set_cons_succ, Nat.reduceAdd]
        have f18 := hf 18 (by decide) (by kernel_rfl)
        generalize vals 18 = v18 at *
        subst f18
        have f8 := hf 8 (by decide) (by kernel_rfl)
        generalize vals 8 = v8 at *
        subst f8
        clear hf
        go_wp2_with (fail)
        exact RQ.mk rfl ⟨(by first | rfl | (simp [FS28_2]; done) | (simp [FS28_2, *]; done) | (simp [FS28_2, gotV]; done) | (simp [FS28_2, gotV]; omega)), fun h => absurd h (by decide)⟩ (Below.refl _ _)
      | 20, _ =>
        injection ho with ho
        subst ho
        clear hl
        simp only [fillA, List.take, List.drop, put_none, Act.put, List.setIfInBounds_toArray, List.set_cons_zero, List.set_cons_succ, Nat.reduceAdd]
        have f19 := hf 19 (by decide) (by kernel_rfl)
        generalize vals 19 = v19 at *
        subst f19
        have f8 := hf 8 (by decide) (by kernel_rfl)
        generalize vals 8 = v8 at *
        subst f8
        clear hf
        go_wp2_with (fail)
        exact RQ.mk rfl ⟨(by first | rfl | (simp [FS28_2]; done) | (simp [FS28_2, *]; done) | (simp [FS28_2, gotV]; done) | (simp [FS28_2, gotV]; omega)), fun h => absurd h (by decide)⟩ (Below.refl _ _)
      | 21, _ =>
        injection ho with ho
        subst ho
        clear hl
        simp only [fillA, List.take, List.drop, put_none, Act.put, List.setIfInBounds_toArray, List.set_cons_zero, List.set_cons_succ, Nat.reduceAdd]
        have f20 := hf 20 (by decide) (by kernel_rfl)
        generalize vals 20 = v20 at *
        subst f20
        have f8 := hf 8 (by decide) (by kernel_rfl)
        generalize vals 8 = v8 at *
        subst f8
        clear hf
        go_wp2_with (fail)
        exact RQ.mk rfl ⟨(by first | rfl | (simp [FS28_2]; done) | (simp [FS28_2, *]; done) | (simp [FS28_2, gotV]; done) | (simp [FS28_2, gotV]; omega)), fun h => absurd h (by decide)⟩ (Below.refl _ _)
      | 22, _ =>
        injection ho with ho
        subst ho
        clear hl
        simp only [fillA, List.take, List.drop, put_none, Act.put, List.setIfInBounds_toArray, List.set_cons_zero, List.set_cons_succ, Nat.reduceAdd]
        have f9 := hf 9 (by decide) (by kernel_rfl)
        generalize vals 9 = v9 at *
        subst f9
        have f15 := hf 15 (by decide) (by kernel_rfl)
        generalize vals 15 = v15 at *
        subst f15
        have f21 := hf 21 (by decide) (by kernel_rfl)
        generalize vals 21 = v21 at *
        subst f21
        have f8 := hf 8 (by decide) (by kernel_rfl)
        generalize vals 8 = v8 at *
        subst f8
        clear hf
        go_wp2_with (first | (go_at_call 53; refine (c_impl_inside _ _ _ _ ).mono ?_; rintro e w' ⟨rfl, hb⟩; have hc := cellOf hb; have hf := frozOf hb; have hz := sizeOf hb; try simp at hz))
        exact RQ.mk rfl ⟨(by first | rfl | (simp [FS28_2]; done) | (simp [FS28_2, *]; done) | (simp [FS28_2, gotV]; done) | (simp [FS28_2, gotV]; omega)), fun h => absurd h (by decide)⟩ (Below.refl _ _)
      | 23, _ =>
        injection ho with ho
        subst ho
        clear hl
        simp only [fillA, List.take, List.drop, put_none, Act.put, List.setIfInBounds_toArray, List.set_cons_zero, List.set_cons_succ, Nat.reduceAdd]
        have f22 := hf 22 (by decide) (by kernel_rfl)
        generalize vals 22 = v22 at *
        subst f22
        have f8 := hf 8 (by decide) (by kernel_rfl)
        generalize vals 8 = v8 at *
        subst f8
        clear hf
        go_wp2_with (fail)
        exact RQ.mk rfl ⟨(by first | rfl | (simp [FS28_2]; done) | (simp [FS28_2, *]; done) | (simp [FS28_2, gotV]; done) | (simp [FS28_2, gotV]; omega)), fun h => absurd h (by decide)⟩ (Below.refl _ _)
      | 24, _ =>
        injection ho with ho
        subst ho
        clear hl
        simp only [fillA, List.take, List.drop, put_none, Act.put, List.setIfInBounds_toArray, List.set_cons_zero, List.set_cons_succ, Nat.reduceAdd]
        have f8 := hf 8 (by decide) (by kernel_rfl)
        generalize vals 8 = v8 at *
        subst f8
        have f23 := hf 23 (by decide) (by kernel_rfl)
        generalize vals 23 = v23 at *
        subst f23
        clear hf
        go_wp2_with (fail)
        exact RQ.mk rfl ⟨(by first | rfl | (simp [FS28_2]; done) | (simp [FS28_2, *]; done) | (simp [FS28_2, gotV]; done) | (simp [FS28_2, gotV]; omega)), fun h => absurd h (by decide)⟩ (Below.refl _ _)
      | m + 25, h => exact absurd h (by omega)
    · intro vals w1 hb1 hf hd
      simp only [fillA, List.take, List.drop, put_none, Act.put, List.setIfInBounds_toArray, List.set_cons_zero, List.set_cons_succ, Nat.reduceAdd]
      clear hd
      have f0 := hf 0 (by decide)
      generalize vals 0 = v0 at *
      subst f0
      have f1 := hf 1 (by decide)
      generalize vals 1 = v1 at *
      subst f1
      have f2 := hf 2 (by decide)
      generalize vals 2 = v2 at *
      subst f2
      have f3 := hf 3 (by decide)
      generalize vals 3 = v3 at *
      subst f3
      have f4 := hf 4 (by decide)
      generalize vals 4 = v4 at *
      subst f4
      have f5 := hf 5 (by decide)
      generalize vals 5 = v5 at *
      subst f5
      have f6 := hf 6 (by decide)
      generalize vals 6 = v6 at *
      subst f6
      have f7 := hf 7 (by decide)
      generalize vals 7 = v7 at *
      subst f7
      have f8 := hf 8 (by decide)
      generalize vals 8 = v8 at *
      subst f8
      have f9 := hf 9 (by decide)
      generalize vals 9 = v9 at *
      subst f9
      have f10 := hf 10 (by decide)
      generalize vals 10 = v10 at *
      subst f10
      have f11 := hf 11 (by decide)
      generalize vals 11 = v11 at *
      subst f11
      have f12 := hf 12 (by decide)
      generalize vals 12 = v12 at *
      subst f12
      have f13 := hf 13 (by decide)
      generalize vals 13 = v13 at *
      subst f13
      have f14 := hf 14 (by decide)
      generalize vals 14 = v14 at *
      subst f14
      have f15 := hf 15 (by decide)
      generalize vals 15 = v15 at *
      subst f15
      have f16 := hf 16 (by decide)
      generalize vals 16 = v16 at *
      subst f16
      have f17 := hf 17 (by decide)
      generalize vals 17 = v17 at *
      subst f17
      have f18 := hf 18 (by decide)
      generalize vals 18 = v18 at *
      subst f18
      have f19 := hf 19 (by decide)
      generalize vals 19 = v19 at *
      subst f19
      have f20 := hf 20 (by decide)
      generalize vals 20 = v20 at *
      subst f20
      have f21 := hf 21 (by decide)
      generalize vals 21 = v21 at *
      subst f21
      have f22 := hf 22 (by decide)
      generalize vals 22 = v22 at *
      subst f22
      have f23 := hf 23 (by decide)
      generalize vals 23 = v23 at *
      subst f23
      have f24 := hf 24 (by decide)
      generalize vals 24 = v24 at *
      subst f24
      clear hf
      have hc1 := cellOf hb1
      have hf1 := frozOf hb1
      have hz1 := sizeOf hb1
      try simp at hz1
      go_wp2_with (fail)
      go_ret2
      simp only [HV.out]
      exact ⟨none, 0, rfl, .inl ⟨rfl, rfl, rfl⟩, by (repeat' (first | exact Below.refl _ _ | assumption | refine Below.setCell ?_ ?_ _ | refine Below.drew ?_ | refine Below.alloc ?_ ?_ _ | refine Below.trans ?_ (Below.mono (by assumption) ?_) | (simp; done) | (simp; omega) | omega))⟩
  cases hfi : findId xs z with
  | none =>
    have hgi := idx_none hfi
    have HV := hid (leaveV_none (q := q) (leaveL_id (h := h) hfi))
    clear hfi
    go_enter Try.func28, Try.ntmps28
    go_wp2_with (first | (go_at_call 62; refine (c_idx_same _ _ _ z w.heap.size _ (by first | assumption | exact Rds.below hx (by (repeat' (first | exact Below.refl _ _ | assumption | refine Below.setCell ?_ ?_ _ | refine Below.drew ?_ | refine Below.alloc ?_ ?_ _ | refine Below.trans ?_ (Below.mono (by assumption) ?_) | (simp; done) | (simp; omega) | omega)))) (by omega) (by first | assumption | (simp [go_sem, ↓IntWalk.iteOmega, *]; done)) (by first | omega | (simp; done) | (simp; omega))).mono ?_; rintro e w' ⟨rfl, hb⟩; have hc := cellOf hb; have hf := frozOf hb; have hz := sizeOf hb; try simp at hz))
    refine wp_region_w (n := 25) [] [] (FS28_2_19 q xs h xs.length cap A w) rfl (by kernel_rfl) (fun _ _ d _ _ h => by cases d <;> exact h) ?_ ?_ ?_ ?_ ?_ ?_
    · intro iq
      match iq with
      | 0 | 1 | 2 | 3 | 4 | 5 | 6 | 7 | 8 | 9 | 10 | 11 | 12 | 13 | 14 | 15 | 16 | 17 | 18 | 19 | 20 | 21 | 22 | 23 | 24 => exact Stable.const _
      | n + 25 => exact Stable.const _
    · intro iq hi
      exact absurd hi (by simp)
    · intro iq hi
      exact absurd hi (by simp)
    · intro iq o hi hl ho vals w1 hb1 hf
      exact absurd hl (by simp)
    · intro iq o hi hl ho vals w1 hb1 hf
      match iq, hi with
      | 0, _ =>
        injection ho with ho
        subst ho
        clear hl
        simp only [fillA, List.take, List.drop, put_none, Act.put, List.setIfInBounds_toArray, List.set_cons_zero, List.set_cons_succ, Nat.reduceAdd]
        clear hf
        go_wp2_with (fail)
        exact RQ.mk rfl ⟨(by first | rfl | (simp [FS28_2_19]; done) | (simp [FS28_2_19, *]; done) | (simp [FS28_2_19, gotV]; done) | (simp [FS28_2_19, gotV]; omega)), fun h => absurd h (by decide)⟩ (Below.refl _ _)
      | 1, _ =>
        injection ho with ho
        subst ho
        clear hl
        simp only [fillA, List.take, List.drop, put_none, Act.put, List.setIfInBounds_toArray, List.set_cons_zero, List.set_cons_succ, Nat.reduceAdd]
        clear hf
        go_wp2_with (fail)
        exact RQ.mk rfl ⟨(by first | rfl | (simp [FS28_2_19]; done) | (simp [FS28_2_19, *]; done) | (simp [FS28_2_19, gotV]; done) | (simp [FS28_2_19, gotV]; omega)), fun h => absurd h (by decide)⟩ (Below.refl _ _)
      | 2, _ =>
        injection ho with ho
        subst ho
        clear hl
        simp only [fillA, List.take, List.drop, put_none, Act.put, List.setIfInBounds_toArray, List.set_cons_zero, List.set_cons_succ, Nat.reduceAdd]
        have f0 := hf 0 (by decide) (by kernel_rfl)
        generalize vals 0 = v0 at *
        subst f0
        have f1 := hf 1 (by decide) (by kernel_rfl)
        generalize vals 1 = v1 at *
        subst f1
        clear hf
        have hc1 := cellOf hb1
        have hf1 := frozOf hb1
        have hz1 := sizeOf hb1
        try simp at hz1
        go_wp2_with (first | (go_at_call 17; refine (c_impl_IsBerthing _ _ _ _ _ (by first | assumption | exact Rds.below hx (by (repeat' (first | exact Below.refl _ _ | assumption | refine Below.setCell ?_ ?_ _ | refine Below.drew ?_ | refine Below.alloc ?_ ?_ _ | refine Below.trans ?_ (Below.mono (by assumption) ?_) | (simp; done) | (simp; omega) | omega)))) (by omega) (by omega) (by omega)).mono ?_; rintro e w' ⟨rfl, hb⟩; have hc := cellOf hb; have hf := frozOf hb; have hz := sizeOf hb; try simp at hz))
        exact RQ.mk rfl ⟨(by first | rfl | (simp [FS28_2_19]; done) | (simp [FS28_2_19, *]; done) | (simp [FS28_2_19, gotV]; done) | (simp [FS28_2_19, gotV]; omega)), fun h => absurd h (by decide)⟩ (by (repeat' (first | exact Below.refl _ _ | assumption | refine Below.setCell ?_ ?_ _ | refine Below.drew ?_ | refine Below.alloc ?_ ?_ _ | refine Below.trans ?_ (Below.mono (by assumption) ?_) | (simp; done) | (simp; omega) | omega)))
      | 3, _ =>
        injection ho with ho
        subst ho
        clear hl
        simp only [fillA, List.take, List.drop, put_none, Act.put, List.setIfInBounds_toArray, List.set_cons_zero, List.set_cons_succ, Nat.reduceAdd]
        have f2 := hf 2 (by decide) (by kernel_rfl)
        generalize vals 2 = v2 at *
        subst f2
        clear hf
        go_wp2_with (fail)
        exact RQ.mk rfl ⟨(by first | rfl | (simp [FS28_2_19]; done) | (simp [FS28_2_19, *]; done) | (simp [FS28_2_19, gotV]; done) | (simp [FS28_2_19, gotV]; omega)), fun h => absurd h (by decide)⟩ (Below.refl _ _)
      | 4, _ =>
        injection ho with ho
        subst ho
        clear hl
        simp only [fillA, List.take, List.drop, put_none, Act.put, List.setIfInBounds_toArray, List.set_cons_zero, List.set_cons_succ, Nat.reduceAdd]
        have f3 := hf 3 (by decide) (by kernel_rfl)
        generalize vals 3 = v3 at *
        subst f3
        have f2 := hf 2 (by decide) (by kernel_rfl)
        generalize vals 2 = v2 at *
        subst f2
        clear hf
        go_wp2_with (fail)
        exact RQ.mk rfl ⟨(by first | rfl | (simp [FS28_2_19]; done) | (simp [FS28_2_19, *]; done) | (simp [FS28_2_19, gotV]; done) | (simp [FS28_2_19, gotV]; omega)), fun h => absurd h (by decide)⟩ (Below.refl _ _)
      | 5, _ =>
        injection ho with ho
        subst ho
        clear hl
        simp only [fillA, List.take, List.drop, put_none, Act.put, List.setIfInBounds_toArray, List.set_cons_zero, List.set_cons_succ, Nat.reduceAdd]
        have f4 := hf 4 (by decide) (by kernel_rfl)
        generalize vals 4 = v4 at *
        subst f4
        clear hf
        go_wp2_with (fail)
        exact RQ.mk rfl ⟨(by first | rfl | (simp [FS28_2_19]; done) | (simp [FS28_2_19, *]; done) | (simp [FS28_2_19, gotV]; done) | (simp [FS28_2_19, gotV]; omega)), fun h => absurd h (by decide)⟩ (Below.refl _ _)
      | 6, _ =>
        injection ho with ho
        subst ho
        clear hl
        simp only [fillA, List.take, List.drop, put_none, Act.put, List.setIfInBounds_toArray, List.set_cons_zero, List.set_cons_succ, Nat.reduceAdd]
        have f5 := hf 5 (by decide) (by kernel_rfl)
        generalize vals 5 = v5 at *
        subst f5
        have f4 := hf 4 (by decide) (by kernel_rfl)
        generalize vals 4 = v4 at *
        subst f4
        clear hf
        go_wp2_with (fail)
        exact RQ.mk rfl ⟨(by first | rfl | (simp [FS28_2_19]; done) | (simp [FS28_2_19, *]; done) | (simp [FS28_2_19, gotV]; done) | (simp [FS28_2_19, gotV]; omega)), fun h => absurd h (by decide)⟩ (Below.refl _ _)
      | 7, _ =>
        injection ho with ho
        subst ho
        clear hl
        simp only [fillA, List.take, List.drop, put_none, Act.put, List.setIfInBounds_toArray, List.set_cons_zero, List.set_cons_succ, Nat.reduceAdd]
        have f4 := hf 4 (by decide) (by kernel_rfl)
        generalize vals 4 = v4 at *
        subst f4
        have f6 := hf 6 (by decide) (by kernel_rfl)
        generalize vals 6 = v6 at *
        subst f6
        clear hf
        go_wp2_with (fail)
        exact RQ.mk rfl ⟨(by first | rfl | (simp [FS28_2_19]; done) | (simp [FS28_2_19, *]; done) | (simp [FS28_2_19, gotV]; done) | (simp [FS28_2_19, gotV]; omega)), fun h => absurd h (by decide)⟩ (Below.refl _ _)
      | 8, _ =>
        injection ho with ho
        subst ho
        clear hl
        simp only [fillA, List.take, List.drop, put_none, Act.put, List.setIfInBounds_toArray, List.set_cons_zero, List.set_cons_succ, Nat.reduceAdd]
        have f7 := hf 7 (by decide) (by kernel_rfl)
        generalize vals 7 = v7 at *
        subst f7
        have f4 := hf 4 (by decide) (by kernel_rfl)
        generalize vals 4 = v4 at *
        subst f4
        clear hf
        go_wp2_with (fail)
        exact RQ.mk rfl ⟨(by first | rfl | (simp [FS28_2_19]; done) | (simp [FS28_2_19, *]; done) | (simp [FS28_2_19, gotV]; done) | (simp [FS28_2_19, gotV]; omega)), fun h => absurd h (by decide)⟩ (Below.refl _ _)
      | 9, _ =>
        injection ho with ho
        subst ho
        clear hl
        simp only [fillA, List.take, List.drop, put_none, Act.put, List.setIfInBounds_toArray, List.set_cons_zero, List.set_cons_succ, Nat.reduceAdd]
        have f8 := hf 8 (by decide) (by kernel_rfl)
        generalize vals 8 = v8 at *
        subst f8
        clear hf
        go_wp2_with (fail)
        exact RQ.mk rfl ⟨(by first | rfl | (simp [FS28_2_19]; done) | (simp [FS28_2_19, *]; done) | (simp [FS28_2_19, gotV]; done) | (simp [FS28_2_19, gotV]; omega)), fun h => absurd h (by decide)⟩ (Below.refl _ _)
      | 10, _ =>
        injection ho with ho
        subst ho
        clear hl
        simp only [fillA, List.take, List.drop, put_none, Act.put, List.setIfInBounds_toArray, List.set_cons_zero, List.set_cons_succ, Nat.reduceAdd]
        have f8 := hf 8 (by decide) (by kernel_rfl)
        generalize vals 8 = v8 at *
        subst f8
        clear hf
        go_wp2_with (fail)
        exact RQ.mk rfl ⟨(by first | rfl | (simp [FS28_2_19]; done) | (simp [FS28_2_19, *]; done) | (simp [FS28_2_19, gotV]; done) | (simp [FS28_2_19, gotV]; omega)), fun h => absurd h (by decide)⟩ (Below.refl _ _)
      | 11, _ =>
        injection ho with ho
        subst ho
        clear hl
        simp only [fillA, List.take, List.drop, put_none, Act.put, List.setIfInBounds_toArray, List.set_cons_zero, List.set_cons_succ, Nat.reduceAdd]
        have f8 := hf 8 (by decide) (by kernel_rfl)
        generalize vals 8 = v8 at *
        subst f8
        clear hf
        go_wp2_with (fail)
        exact RQ.mk rfl ⟨(by first | rfl | (simp [FS28_2_19]; done) | (simp [FS28_2_19, *]; done) | (simp [FS28_2_19, gotV]; done) | (simp [FS28_2_19, gotV]; omega)), fun h => absurd h (by decide)⟩ (Below.refl _ _)
      | 12, _ =>
        injection ho with ho
        subst ho
        clear hl
        simp only [fillA, List.take, List.drop, put_none, Act.put, List.setIfInBounds_toArray, List.set_cons_zero, List.set_cons_succ, Nat.reduceAdd]
        have f10 := hf 10 (by decide) (by kernel_rfl)
        generalize vals 10 = v10 at *
        subst f10
        have f11 := hf 11 (by decide) (by kernel_rfl)
        generalize vals 11 = v11 at *
        subst f11
        have f8 := hf 8 (by decide) (by kernel_rfl)
        generalize vals 8 = v8 at *
        subst f8
        clear hf
        go_wp2_with (fail)
        exact RQ.mk rfl ⟨(by first | rfl | (simp [FS28_2_19]; done) | (simp [FS28_2_19, *]; done) | (simp [FS28_2_19, gotV]; done) | (simp [FS28_2_19, gotV]; omega)), fun h => absurd h (by decide)⟩ (Below.refl _ _)
      | 13, _ =>
        injection ho with ho
        subst ho
        clear hl
        simp only [fillA, List.take, List.drop, put_none, Act.put, List.setIfInBounds_toArray, List.set_cons_zero, List.set_cons_succ, Nat.reduceAdd]
        have f12 := hf 12 (by decide) (by kernel_rfl)
        generalize vals 12 = v12 at *
        subst f12
        have f8 := hf 8 (by decide) (by kernel_rfl)
        generalize vals 8 = v8 at *
        subst f8
        clear hf
        go_wp2_with (fail)
        exact RQ.mk rfl ⟨(by first | rfl | (simp [FS28_2_19]; done) | (simp [FS28_2_19, *]; done) | (simp [FS28_2_19, gotV]; done) | (simp [FS28_2_19, gotV]; omega)), fun h => absurd h (by decide)⟩ (Below.refl _ _)
      | 14, _ =>
        injection ho with ho
        subst ho
        clear hl
        simp only [fillA, List.take, List.drop, put_none, Act.put, List.setIfInBounds_toArray, List.set_cons_zero, List.set_cons_succ, Nat.reduceAdd]
        have f13 := hf 13 (by decide) (by kernel_rfl)
        generalize vals 13 = v13 at *
        subst f13
        have f8 := hf 8 (by decide) (by kernel_rfl)
        generalize vals 8 = v8 at *
        subst f8
        clear hf
        go_wp2_with (fail)
        exact RQ.mk rfl ⟨(by first | rfl | (simp [FS28_2_19]; done) | (simp [FS28_2_19, *]; done) | (simp [FS28_2_19, gotV]; done) | (simp [FS28_2_19, gotV]; omega)), fun h => absurd h (by decide)⟩ (Below.refl _ _)
      | 15, _ =>
        injection ho with ho
        subst ho
        clear hl
        simp only [fillA, List.take, List.drop, put_none, Act.put, List.setIfInBounds_toArray, List.set_cons_zero, List.set_cons_succ, Nat.reduceAdd]
        have f14 := hf 14 (by decide) (by kernel_rfl)
        generalize vals 14 = v14 at *
        subst f14
        have f8 := hf 8 (by decide) (by kernel_rfl)
        generalize vals 8 = v8 at *
        subst f8
        clear hf
        go_wp2_with (fail)
        exact RQ.mk rfl ⟨(by first | rfl | (simp [FS28_2_19]; done) | (simp [FS28_2_19, *]; done) | (simp [FS28_2_19, gotV]; done) | (simp [FS28_2_19, gotV]; omega)), fun h => absurd h (by decide)⟩ (Below.refl _ _)
      | 16, _ =>
        injection ho with ho
        subst ho
        clear hl
        simp only [fillA, List.take, List.drop, put_none, Act.put, List.setIfInBounds_toArray, List.set_cons_zero, List.set_cons_succ, Nat.reduceAdd]
        have f8 := hf 8 (by decide) (by kernel_rfl)
        generalize vals 8 = v8 at *
        subst f8
        clear hf
        go_wp2_with (fail)
        exact RQ.mk rfl ⟨(by first | rfl | (simp [FS28_2_19]; done) | (simp [FS28_2_19, *]; done) | (simp [FS28_2_19, gotV]; done) | (simp [FS28_2_19, gotV]; omega)), fun h => absurd h (by decide)⟩ (Below.refl _ _)
      | 17, _ =>
        injection ho with ho
        subst ho
        clear hl
        simp only [fillA, List.take, List.drop, put_none, Act.put, List.setIfInBounds_toArray, List.set_cons_zero, List.set_cons_succ, Nat.reduceAdd]
        have f8 := hf 8 (by decide) (by kernel_rfl)
        generalize vals 8 = v8 at *
        subst f8
        clear hf
        go_wp2_with (fail)
        exact RQ.mk rfl ⟨(by first | rfl | (simp [FS28_2_19]; done) | (simp [FS28_2_19, *]; done) | (simp [FS28_2_19, gotV]; done) | (simp [FS28_2_19, gotV]; omega)), fun h => absurd h (by decide)⟩ (Below.refl _ _)
      | 18, _ =>
        injection ho with ho
        subst ho
        clear hl
        simp only [fillA, List.take, List.drop, put_none, Act.put, List.setIfInBounds_toArray, List.set_cons_zero, List.set_cons_succ, Nat.reduceAdd]
        have f16 := hf 16 (by decide) (by kernel_rfl)
        generalize vals 16 = v16 at *
        subst f16
        have f17 := hf 17 (by decide) (by kernel_rfl)
        generalize vals 17 = v17 at *
        subst f17
        have f8 := hf 8 (by decide) (by kernel_rfl)
        generalize vals 8 = v8 at *
        subst f8
        clear hf
        go_wp2_with (fail)
        exact RQ.mk rfl ⟨(by first | rfl | (simp [FS28_2_19]; done) | (simp [FS28_2_19, *]; done) | (simp [FS28_2_19, gotV]; done) | (simp [FS28_2_19, gotV]; omega)), fun h => absurd h (by decide)⟩ (Below.refl _ _)
      | 19, _ =>
        injection ho with ho
        subst ho
        clear hl
        simp only [fillA, List.take, List.drop, put_none, Act.put, List.setIfInBounds_toArray, List.set_cons_zero, List.set_cons_succ, Nat.reduceAdd]
        have f18 := hf 18 (by decide) (by kernel_rfl)
        generalize vals 18 = v18 at *
        subst f18
        have f8 := hf 8 (by decide) (by kernel_rfl)
        generalize vals 8 = v8 at *
        subst f8
        clear hf
        go_wp2_with (fail)
        exact RQ.mk rfl ⟨(by first | rfl | (simp [FS28_2_19]; done) | (simp [FS28_2_19, *]; done) | (simp [FS28_2_19, gotV]; done) | (simp [FS28_2_19, gotV]; omega)), fun h => absurd h (by decide)⟩ (Below.refl _ _)
      | 20, _ =>
        injection ho with ho
        subst ho
        clear hl
        simp only [fillA, List.take, List.drop, put_none, Act.put, List.setIfInBounds_toArray, List.set_cons_zero, List.set_cons_succ, Nat.reduceAdd]
        have f19 := hf 19 (by decide) (by kernel_rfl)
        generalize vals 19 = v19 at *
        subst f19
        have f8 := hf 8 (by decide) (by kernel_rfl)
        generalize vals 8 = v8 at *
        subst f8
        clear hf
        go_wp2_with (fail)
        exact RQ.mk rfl ⟨(by first | rfl | (simp [FS28_2_19]; done) | (simp [FS28_2_19, *]; done) | (simp [FS28_2_19, gotV]; done) | (simp [FS28_2_19, gotV]; omega)), fun h => absurd h (by decide)⟩ (Below.refl _ _)
      | 21, _ =>
        injection ho with ho
        subst ho
        clear hl
        simp only [fillA, List.take, List.drop, put_none, Act.put, List.setIfInBounds_toArray, List.set_cons_zero, List.set_cons_succ, Nat.reduceAdd]
        have f20 := hf 20 (by decide) (by kernel_rfl)
        generalize vals 20 = v20 at *
        subst f20
        have f8 := hf 8 (by decide) (by kernel_rfl)
        generalize vals 8 = v8 at *
        subst f8
        clear hf
        go_wp2_with (fail)
        exact RQ.mk rfl ⟨(by first | rfl | (simp [FS28_2_19]; done) | (simp [FS28_2_19, *]; done) | (simp [FS28_2_19, gotV]; done) | (simp [FS28_2_19, gotV]; omega)), fun h => absurd h (by decide)⟩ (Below.refl _ _)
      | 22, _ =>
        injection ho with ho
        subst ho
        clear hl
        simp only [fillA, List.take, List.drop, put_none, Act.put, List.setIfInBounds_toArray, List.set_cons_zero, List.set_cons_succ, Nat.reduceAdd]
        have f9 := hf 9 (by decide) (by kernel_rfl)
        generalize vals 9 = v9 at *
        subst f9
        have f15 := hf 15 (by decide) (by kernel_rfl)
        generalize vals 15 = v15 at *
        subst f15
        have f21 := hf 21 (by decide) (by kernel_rfl)
        generalize vals 21 = v21 at *
        subst f21
        have f8 := hf 8 (by decide) (by kernel_rfl)
        generalize vals 8 = v8 at *
        subst f8
        clear hf
        go_wp2_with (first | (go_at_call 53; refine (c_impl_inside _ _ _ _ ).mono ?_; rintro e w' ⟨rfl, hb⟩; have hc := cellOf hb; have hf := frozOf hb; have hz := sizeOf hb; try simp at hz))
        exact RQ.mk rfl ⟨(by first | rfl | (simp [FS28_2_19]; done) | (simp [FS28_2_19, *]; done) | (simp [FS28_2_19, gotV]; done) | (simp [FS28_2_19, gotV]; omega)), fun h => absurd h (by decide)⟩ (Below.refl _ _)
      | 23, _ =>
        injection ho with ho
        subst ho
        clear hl
        simp only [fillA, List.take, List.drop, put_none, Act.put, List.setIfInBounds_toArray, List.set_cons_zero, List.set_cons_succ, Nat.reduceAdd]
        have f22 := hf 22 (by decide) (by kernel_rfl)
        generalize vals 22 = v22 at *
        subst f22
        have f8 := hf 8 (by decide) (by kernel_rfl)
        generalize vals 8 = v8 at *
        subst f8
        clear hf
        go_wp2_with (fail)
        exact RQ.mk rfl ⟨(by first | rfl | (simp [FS28_2_19]; done) | (simp [FS28_2_19, *]; done) | (simp [FS28_2_19, gotV]; done) | (simp [FS28_2_19, gotV]; omega)), fun h => absurd h (by decide)⟩ (Below.refl _ _)
      | 24, _ =>
        injection ho with ho
        subst ho
        clear hl
        simp only [fillA, List.take, List.drop, put_none, Act.put, List.setIfInBounds_toArray, List.set_cons_zero, List.set_cons_succ, Nat.reduceAdd]
        have f8 := hf 8 (by decide) (by kernel_rfl)
        generalize vals 8 = v8 at *
        subst f8
        have f23 := hf 23 (by decide) (by kernel_rfl)
        generalize vals 23 = v23 at *
        subst f23
        clear hf
        go_wp2_with (fail)
        exact RQ.mk rfl ⟨(by first | rfl | (simp [FS28_2_19]; done) | (simp [FS28_2_19, *]; done) | (simp [FS28_2_19, gotV]; done) | (simp [FS28_2_19, gotV]; omega)), fun h => absurd h (by decide)⟩ (Below.refl _ _)
      | m + 25, h => exact absurd h (by omega)
    · intro vals w1 hb1 hf hd
      simp only [fillA, List.take, List.drop, put_none, Act.put, List.setIfInBounds_toArray, List.set_cons_zero, List.set_cons_succ, Nat.reduceAdd]
      clear hd
      have f0 := hf 0 (by decide)
      generalize vals 0 = v0 at *
      subst f0
      have f1 := hf 1 (by decide)
      generalize vals 1 = v1 at *
      subst f1
      have f2 := hf 2 (by decide)
      generalize vals 2 = v2 at *
      subst f2
      have f3 := hf 3 (by decide)
      generalize vals 3 = v3 at *
      subst f3
      have f4 := hf 4 (by decide)
      generalize vals 4 = v4 at *
      subst f4
      have f5 := hf 5 (by decide)
      generalize vals 5 = v5 at *
      subst f5
      have f6 := hf 6 (by decide)
      generalize vals 6 = v6 at *
      subst f6
      have f7 := hf 7 (by decide)
      generalize vals 7 = v7 at *
      subst f7
      have f8 := hf 8 (by decide)
      generalize vals 8 = v8 at *
      subst f8
      have f9 := hf 9 (by decide)
      generalize vals 9 = v9 at *
      subst f9
      have f10 := hf 10 (by decide)
      generalize vals 10 = v10 at *
      subst f10
      have f11 := hf 11 (by decide)
      generalize vals 11 = v11 at *
      subst f11
      have f12 := hf 12 (by decide)
      generalize vals 12 = v12 at *
      subst f12
      have f13 := hf 13 (by decide)
      generalize vals 13 = v13 at *
      subst f13
      have f14 := hf 14 (by decide)
      generalize vals 14 = v14 at *
      subst f14
      have f15 := hf 15 (by decide)
      generalize vals 15 = v15 at *
      subst f15
      have f16 := hf 16 (by decide)
      generalize vals 16 = v16 at *
      subst f16
      have f17 := hf 17 (by decide)
      generalize vals 17 = v17 at *
      subst f17
      have f18 := hf 18 (by decide)
      generalize vals 18 = v18 at *
      subst f18
      have f19 := hf 19 (by decide)
      generalize vals 19 = v19 at *
      subst f19
      have f20 := hf 20 (by decide)
      generalize vals 20 = v20 at *
      subst f20
      have f21 := hf 21 (by decide)
      generalize vals 21 = v21 at *
      subst f21
      have f22 := hf 22 (by decide)
      generalize vals 22 = v22 at *
      subst f22
      have f23 := hf 23 (by decide)
      generalize vals 23 = v23 at *
      subst f23
      have f24 := hf 24 (by decide)
      generalize vals 24 = v24 at *
      subst f24
      clear hf
      have hc1 := cellOf hb1
      have hf1 := frozOf hb1
      have hz1 := sizeOf hb1
      try simp at hz1
      go_wp2_with (fail)
      go_ret2
      simp only [HV.out]
      exact ⟨none, 0, rfl, .inl ⟨rfl, rfl, rfl⟩, by (repeat' (first | exact Below.refl _ _ | assumption | refine Below.setCell ?_ ?_ _ | refine Below.drew ?_ | refine Below.alloc ?_ ?_ _ | refine Below.trans ?_ (Below.mono (by assumption) ?_) | (simp; done) | (simp; omega) | omega))⟩
  | some k =>
    have hgi := idx_some hfi
    have hlt := findId_lt hfi
    have hlen := berV_len hs0
    have hqb := inB_bd (berV_quay hs0)
    have hxb := berOk_bd (berV_at hs0 k hlt)
    obtain ⟨bx, ox, rfl, hbx, hcx⟩ := Rds.all hx (by omega)
    have hx3 := hcx k hlt 3 _ rfl
    have hx4 := hcx k hlt 4 _ rfl
    have HX := hid hcx
    clear hcx
    by_cases hi : inB h (xs[k].2.2.2.1 + 1) (xs[k].2.2.2.2 - 1) = true
    rotate_left
    · have hin : inB h (xs[k].2.2.2.1 + 1) (xs[k].2.2.2.2 - 1) = false := Bool.eq_false_iff.2 hi
      have HV := hid (leaveV_none (q := q) (leaveL_out hlt hfi hin))
      clear hi hfi HX
      obtain ⟨x, hxk⟩ : ∃ x, x = xs[k] := ⟨_, rfl⟩
      simp only [← hxk] at hx3 hx4 hxb hin
      clear hxk
      go_enter Try.func28, Try.ntmps28
      go_wp2_with (first | (go_at_call 62; refine (c_idx_same _ _ _ z w.heap.size _ (by first | assumption | exact Rds.below hx (by (repeat' (first | exact Below.refl _ _ | assumption | refine Below.setCell ?_ ?_ _ | refine Below.drew ?_ | refine Below.alloc ?_ ?_ _ | refine Below.trans ?_ (Below.mono (by assumption) ?_) | (simp; done) | (simp; omega) | omega)))) (by omega) (by first | assumption | (simp [go_sem, ↓IntWalk.iteOmega, *]; done)) (by first | omega | (simp; done) | (simp; omega))).mono ?_; rintro e w' ⟨rfl, hb⟩; have hc := cellOf hb; have hf := frozOf hb; have hz := sizeOf hb; try simp at hz))
      refine wp_region_w (n := 25) [] [] (FS28_2_20 q xs h xs.length cap x k bx ox w) rfl (by kernel_rfl) (fun _ _ d _ _ h => by cases d <;> exact h) ?_ ?_ ?_ ?_ ?_ ?_
      · intro iq
        match iq with
        | 0 | 1 | 2 | 3 | 4 | 5 | 6 | 7 | 8 | 9 | 10 | 11 | 12 | 13 | 14 | 15 | 16 | 17 | 18 | 19 | 20 | 21 | 22 | 23 | 24 => exact Stable.const _
        | n + 25 => exact Stable.const _
      · intro iq hi
        exact absurd hi (by simp)
      · intro iq hi
        exact absurd hi (by simp)
      · intro iq o hi hl ho vals w1 hb1 hf
        exact absurd hl (by simp)
      · intro iq o hi hl ho vals w1 hb1 hf
        match iq, hi with
        | 0, _ =>
          injection ho with ho
          subst ho
          clear hl
          simp only [fillA, List.take, List.drop, put_none, Act.put, List.setIfInBounds_toArray, List.set_cons_zero, List.set_cons_succ, Nat.reduceAdd]
          clear hf
          go_wp2_with (fail)
          exact RQ.mk rfl ⟨(by first | rfl | (simp [FS28_2_20]; done) | (simp [FS28_2_20, *]; done) | (simp [FS28_2_20, gotV]; done) | (simp [FS28_2_20, gotV]; omega)), fun h => absurd h (by decide)⟩ (Below.refl _ _)
        | 1, _ =>
          injection ho with ho
          subst ho
          clear hl
          simp only [fillA, List.take, List.drop, put_none, Act.put, List.setIfInBounds_toArray, List.set_cons_zero, List.set_cons_succ, Nat.reduceAdd]
          clear hf
          go_wp2_with (fail)
          exact RQ.mk rfl ⟨(by first | rfl | (simp [FS28_2_20]; done) | (simp [FS28_2_20, *]; done) | (simp [FS28_2_20, gotV]; done) | (simp [FS28_2_20, gotV]; omega)), fun h => absurd h (by decide)⟩ (Below.refl _ _)
        | 2, _ =>
          injection ho with ho
          subst ho
          clear hl
          simp only [fillA, List.take, List.drop, put_none, Act.put, List.setIfInBounds_toArray, List.set_cons_zero, List.set_cons_succ, Nat.reduceAdd]
          have f0 := hf 0 (by decide) (by kernel_rfl)
          generalize vals 0 = v0 at *
          subst f0
          have f1 := hf 1 (by decide) (by kernel_rfl)
          generalize vals 1 = v1 at *
          subst f1
          clear hf
          have hc1 := cellOf hb1
          have hf1 := frozOf hb1
          have hz1 := sizeOf hb1
          try simp at hz1
          go_wp2_with (first | (go_at_call 17; refine (c_impl_IsBerthing _ _ _ _ _ (by first | assumption | exact Rds.below hx (by (repeat' (first | exact Below.refl _ _ | assumption | refine Below.setCell ?_ ?_ _ | refine Below.drew ?_ | refine Below.alloc ?_ ?_ _ | refine Below.trans ?_ (Below.mono (by assumption) ?_) | (simp; done) | (simp; omega) | omega)))) (by omega) (by omega) (by omega)).mono ?_; rintro e w' ⟨rfl, hb⟩; have hc := cellOf hb; have hf := frozOf hb; have hz := sizeOf hb; try simp at hz))
          exact RQ.mk rfl ⟨(by first | rfl | (simp [FS28_2_20]; done) | (simp [FS28_2_20, *]; done) | (simp [FS28_2_20, gotV]; done) | (simp [FS28_2_20, gotV]; omega)), fun h => absurd h (by decide)⟩ (by (repeat' (first | exact Below.refl _ _ | assumption | refine Below.setCell ?_ ?_ _ | refine Below.drew ?_ | refine Below.alloc ?_ ?_ _ | refine Below.trans ?_ (Below.mono (by assumption) ?_) | (simp; done) | (simp; omega) | omega)))
        | 3, _ =>
          injection ho with ho
          subst ho
          clear hl
          simp only [fillA, List.take, List.drop, put_none, Act.put, List.setIfInBounds_toArray, List.set_cons_zero, List.set_cons_succ, Nat.reduceAdd]
          have f2 := hf 2 (by decide) (by kernel_rfl)
          generalize vals 2 = v2 at *
          subst f2
          clear hf
          go_wp2_with (fail)
          exact RQ.mk rfl ⟨(by first | rfl | (simp [FS28_2_20]; done) | (simp [FS28_2_20, *]; done) | (simp [FS28_2_20, gotV]; done) | (simp [FS28_2_20, gotV]; omega)), fun h => absurd h (by decide)⟩ (Below.refl _ _)
        | 4, _ =>
          injection ho with ho
          subst ho
          clear hl
          simp only [fillA, List.take, List.drop, put_none, Act.put, List.setIfInBounds_toArray, List.set_cons_zero, List.set_cons_succ, Nat.reduceAdd]
          have f3 := hf 3 (by decide) (by kernel_rfl)
          generalize vals 3 = v3 at *
          subst f3
          have f2 := hf 2 (by decide) (by kernel_rfl)
          generalize vals 2 = v2 at *
          subst f2
          clear hf
          go_wp2_with (fail)
          exact RQ.mk rfl ⟨(by first | rfl | (simp [FS28_2_20]; done) | (simp [FS28_2_20, *]; done) | (simp [FS28_2_20, gotV]; done) | (simp [FS28_2_20, gotV]; omega)), fun h => absurd h (by decide)⟩ (Below.refl _ _)
        | 5, _ =>
          injection ho with ho
          subst ho
          clear hl
          simp only [fillA, List.take, List.drop, put_none, Act.put, List.setIfInBounds_toArray, List.set_cons_zero, List.set_cons_succ, Nat.reduceAdd]
          have f4 := hf 4 (by decide) (by kernel_rfl)
          generalize vals 4 = v4 at *
          subst f4
          clear hf
          go_wp2_with (fail)
          exact RQ.mk rfl ⟨(by first | rfl | (simp [FS28_2_20]; done) | (simp [FS28_2_20, *]; done) | (simp [FS28_2_20, gotV]; done) | (simp [FS28_2_20, gotV]; omega)), fun h => absurd h (by decide)⟩ (Below.refl _ _)
        | 6, _ =>
          injection ho with ho
          subst ho
          clear hl
          simp only [fillA, List.take, List.drop, put_none, Act.put, List.setIfInBounds_toArray, List.set_cons_zero, List.set_cons_succ, Nat.reduceAdd]
          have f5 := hf 5 (by decide) (by kernel_rfl)
          generalize vals 5 = v5 at *
          subst f5
          have f4 := hf 4 (by decide) (by kernel_rfl)
          generalize vals 4 = v4 at *
          subst f4
          clear hf
          go_wp2_with (fail)
          exact RQ.mk rfl ⟨(by first | rfl | (simp [FS28_2_20]; done) | (simp [FS28_2_20, *]; done) | (simp [FS28_2_20, gotV]; done) | (simp [FS28_2_20, gotV]; omega)), fun h => absurd h (by decide)⟩ (Below.refl _ _)
        | 7, _ =>
          injection ho with ho
          subst ho
          clear hl
          simp only [fillA, List.take, List.drop, put_none, Act.put, List.setIfInBounds_toArray, List.set_cons_zero, List.set_cons_succ, Nat.reduceAdd]
          have f4 := hf 4 (by decide) (by kernel_rfl)
          generalize vals 4 = v4 at *
          subst f4
          have f6 := hf 6 (by decide) (by kernel_rfl)
          generalize vals 6 = v6 at *
          subst f6
          clear hf
          go_wp2_with (fail)
          exact RQ.mk rfl ⟨(by first | rfl | (simp [FS28_2_20]; done) | (simp [FS28_2_20, *]; done) | (simp [FS28_2_20, gotV]; done) | (simp [FS28_2_20, gotV]; omega)), fun h => absurd h (by decide)⟩ (Below.refl _ _)
        | 8, _ =>
          injection ho with ho
          subst ho
          clear hl
          simp only [fillA, List.take, List.drop, put_none, Act.put, List.setIfInBounds_toArray, List.set_cons_zero, List.set_cons_succ, Nat.reduceAdd]
          have f7 := hf 7 (by decide) (by kernel_rfl)
          generalize vals 7 = v7 at *
          subst f7
          have f4 := hf 4 (by decide) (by kernel_rfl)
          generalize vals 4 = v4 at *
          subst f4
          clear hf
          go_wp2_with (fail)
          exact RQ.mk rfl ⟨(by first | rfl | (simp [FS28_2_20]; done) | (simp [FS28_2_20, *]; done) | (simp [FS28_2_20, gotV]; done) | (simp [FS28_2_20, gotV]; omega)), fun h => absurd h (by decide)⟩ (Below.refl _ _)
        | 9, _ =>
          injection ho with ho
          subst ho
          clear hl
          simp only [fillA, List.take, List.drop, put_none, Act.put, List.setIfInBounds_toArray, List.set_cons_zero, List.set_cons_succ, Nat.reduceAdd]
          have f8 := hf 8 (by decide) (by kernel_rfl)
          generalize vals 8 = v8 at *
          subst f8
          clear hf
          go_wp2_with (fail)
          exact RQ.mk rfl ⟨(by first | rfl | (simp [FS28_2_20]; done) | (simp [FS28_2_20, *]; done) | (simp [FS28_2_20, gotV]; done) | (simp [FS28_2_20, gotV]; omega)), fun h => absurd h (by decide)⟩ (Below.refl _ _)
        | 10, _ =>
          injection ho with ho
          subst ho
          clear hl
          simp only [fillA, List.take, List.drop, put_none, Act.put, List.setIfInBounds_toArray, List.set_cons_zero, List.set_cons_succ, Nat.reduceAdd]
          have f8 := hf 8 (by decide) (by kernel_rfl)
          generalize vals 8 = v8 at *
          subst f8
          clear hf
          go_wp2_with (fail)
          exact RQ.mk rfl ⟨(by first | rfl | (simp [FS28_2_20]; done) | (simp [FS28_2_20, *]; done) | (simp [FS28_2_20, gotV]; done) | (simp [FS28_2_20, gotV]; omega)), fun h => absurd h (by decide)⟩ (Below.refl _ _)
        | 11, _ =>
          injection ho with ho
          subst ho
          clear hl
          simp only [fillA, List.take, List.drop, put_none, Act.put, List.setIfInBounds_toArray, List.set_cons_zero, List.set_cons_succ, Nat.reduceAdd]
          have f8 := hf 8 (by decide) (by kernel_rfl)
          generalize vals 8 = v8 at *
          subst f8
          clear hf
          go_wp2_with (fail)
          exact RQ.mk rfl ⟨(by first | rfl | (simp [FS28_2_20]; done) | (simp [FS28_2_20, *]; done) | (simp [FS28_2_20, gotV]; done) | (simp [FS28_2_20, gotV]; omega)), fun h => absurd h (by decide)⟩ (Below.refl _ _)
        | 12, _ =>
          injection ho with ho
          subst ho
          clear hl
          simp only [fillA, List.take, List.drop, put_none, Act.put, List.setIfInBounds_toArray, List.set_cons_zero, List.set_cons_succ, Nat.reduceAdd]
          have f10 := hf 10 (by decide) (by kernel_rfl)
          generalize vals 10 = v10 at *
          subst f10
          have f11 := hf 11 (by decide) (by kernel_rfl)
          generalize vals 11 = v11 at *
          subst f11
          have f8 := hf 8 (by decide) (by kernel_rfl)
          generalize vals 8 = v8 at *
          subst f8
          clear hf
          go_wp2_with (fail)
          exact RQ.mk rfl ⟨(by first | rfl | (simp [FS28_2_20]; done) | (simp [FS28_2_20, *]; done) | (simp [FS28_2_20, gotV]; done) | (simp [FS28_2_20, gotV]; omega)), fun h => absurd h (by decide)⟩ (Below.refl _ _)
        | 13, _ =>
          injection ho with ho
          subst ho
          clear hl
          simp only [fillA, List.take, List.drop, put_none, Act.put, List.setIfInBounds_toArray, List.set_cons_zero, List.set_cons_succ, Nat.reduceAdd]
          have f12 := hf 12 (by decide) (by kernel_rfl)
          generalize vals 12 = v12 at *
          subst f12
          have f8 := hf 8 (by decide) (by kernel_rfl)
          generalize vals 8 = v8 at *
          subst f8
          clear hf
          go_wp2_with (fail)
          exact RQ.mk rfl ⟨(by first | rfl | (simp [FS28_2_20]; done) | (simp [FS28_2_20, *]; done) | (simp [FS28_2_20, gotV]; done) | (simp [FS28_2_20, gotV]; omega)), fun h => absurd h (by decide)⟩ (Below.refl _ _)
        | 14, _ =>
          injection ho with ho
          subst ho
          clear hl
          simp only [fillA, List.take, List.drop, put_none, Act.put, List.setIfInBounds_toArray, List.set_cons_zero, List.set_cons_succ, Nat.reduceAdd]
          have f13 := hf 13 (by decide) (by kernel_rfl)
          generalize vals 13 = v13 at *
          subst f13
          have f8 := hf 8 (by decide) (by kernel_rfl)
          generalize vals 8 = v8 at *
          subst f8
          clear hf
          have hc1 := cellOf hb1
          have hf1 := frozOf hb1
          have hz1 := sizeOf hb1
          try simp at hz1
          go_wp2_with (fail)
          exact RQ.mk rfl ⟨(by first | rfl | (simp [FS28_2_20]; done) | (simp [FS28_2_20, *]; done) | (simp [FS28_2_20, gotV]; done) | (simp [FS28_2_20, gotV]; omega)), fun h => absurd h (by decide)⟩ (Below.refl _ _)
        | 15, _ =>
          injection ho with ho
          subst ho
          clear hl
          simp only [fillA, List.take, List.drop, put_none, Act.put, List.setIfInBounds_toArray, List.set_cons_zero, List.set_cons_succ, Nat.reduceAdd]
          have f14 := hf 14 (by decide) (by kernel_rfl)
          generalize vals 14 = v14 at *
          subst f14
          have f8 := hf 8 (by decide) (by kernel_rfl)
          generalize vals 8 = v8 at *
          subst f8
          clear hf
          go_wp2_with (fail)
          exact RQ.mk rfl ⟨(by first | rfl | (simp [FS28_2_20]; done) | (simp [FS28_2_20, *]; done) | (simp [FS28_2_20, gotV]; done) | (simp [FS28_2_20, gotV]; omega)), fun h => absurd h (by decide)⟩ (Below.refl _ _)
        | 16, _ =>
          injection ho with ho
          subst ho
          clear hl
          simp only [fillA, List.take, List.drop, put_none, Act.put, List.setIfInBounds_toArray, List.set_cons_zero, List.set_cons_succ, Nat.reduceAdd]
          have f8 := hf 8 (by decide) (by kernel_rfl)
          generalize vals 8 = v8 at *
          subst f8
          clear hf
          go_wp2_with (fail)
          exact RQ.mk rfl ⟨(by first | rfl | (simp [FS28_2_20]; done) | (simp [FS28_2_20, *]; done) | (simp [FS28_2_20, gotV]; done) | (simp [FS28_2_20, gotV]; omega)), fun h => absurd h (by decide)⟩ (Below.refl _ _)
        | 17, _ =>
          injection ho with ho
          subst ho
          clear hl
          simp only [fillA, List.take, List.drop, put_none, Act.put, List.setIfInBounds_toArray, List.set_cons_zero, List.set_cons_succ, Nat.reduceAdd]
          have f8 := hf 8 (by decide) (by kernel_rfl)
          generalize vals 8 = v8 at *
          subst f8
          clear hf
          go_wp2_with (fail)
          exact RQ.mk rfl ⟨(by first | rfl | (simp [FS28_2_20]; done) | (simp [FS28_2_20, *]; done) | (simp [FS28_2_20, gotV]; done) | (simp [FS28_2_20, gotV]; omega)), fun h => absurd h (by decide)⟩ (Below.refl _ _)
        | 18, _ =>
          injection ho with ho
          subst ho
          clear hl
          simp only [fillA, List.take, List.drop, put_none, Act.put, List.setIfInBounds_toArray, List.set_cons_zero, List.set_cons_succ, Nat.reduceAdd]
          have f16 := hf 16 (by decide) (by kernel_rfl)
          generalize vals 16 = v16 at *
          subst f16
          have f17 := hf 17 (by decide) (by kernel_rfl)
          generalize vals 17 = v17 at *
          subst f17
          have f8 := hf 8 (by decide) (by kernel_rfl)
          generalize vals 8 = v8 at *
          subst f8
          clear hf
          go_wp2_with (fail)
          exact RQ.mk rfl ⟨(by first | rfl | (simp [FS28_2_20]; done) | (simp [FS28_2_20, *]; done) | (simp [FS28_2_20, gotV]; done) | (simp [FS28_2_20, gotV]; omega)), fun h => absurd h (by decide)⟩ (Below.refl _ _)
        | 19, _ =>
          injection ho with ho
          subst ho
          clear hl
          simp only [fillA, List.take, List.drop, put_none, Act.put, List.setIfInBounds_toArray, List.set_cons_zero, List.set_cons_succ, Nat.reduceAdd]
          have f18 := hf 18 (by decide) (by kernel_rfl)
          generalize vals 18 = v18 at *
          subst f18
          have f8 := hf 8 (by decide) (by kernel_rfl)
          generalize vals 8 = v8 at *
          subst f8
          clear hf
          go_wp2_with (fail)
          exact RQ.mk rfl ⟨(by first | rfl | (simp [FS28_2_20]; done) | (simp [FS28_2_20, *]; done) | (simp [FS28_2_20, gotV]; done) | (simp [FS28_2_20, gotV]; omega)), fun h => absurd h (by decide)⟩ (Below.refl _ _)
        | 20, _ =>
          injection ho with ho
          subst ho
          clear hl
          simp only [fillA, List.take, List.drop, put_none, Act.put, List.setIfInBounds_toArray, List.set_cons_zero, List.set_cons_succ, Nat.reduceAdd]
          have f19 := hf 19 (by decide) (by kernel_rfl)
          generalize vals 19 = v19 at *
          subst f19
          have f8 := hf 8 (by decide) (by kernel_rfl)
          generalize vals 8 = v8 at *
          subst f8
          clear hf
          have hc1 := cellOf hb1
          have hf1 := frozOf hb1
          have hz1 := sizeOf hb1
          try simp at hz1
          go_wp2_with (fail)
          exact RQ.mk rfl ⟨(by first | rfl | (simp [FS28_2_20]; done) | (simp [FS28_2_20, *]; done) | (simp [FS28_2_20, gotV]; done) | (simp [FS28_2_20, gotV]; omega)), fun h => absurd h (by decide)⟩ (Below.refl _ _)
        | 21, _ =>
          injection ho with ho
          subst ho
          clear hl
          simp only [fillA, List.take, List.drop, put_none, Act.put, List.setIfInBounds_toArray, List.set_cons_zero, List.set_cons_succ, Nat.reduceAdd]
          have f20 := hf 20 (by decide) (by kernel_rfl)
          generalize vals 20 = v20 at *
          subst f20
          have f8 := hf 8 (by decide) (by kernel_rfl)
          generalize vals 8 = v8 at *
          subst f8
          clear hf
          go_wp2_with (fail)
          exact RQ.mk rfl ⟨(by first | rfl | (simp [FS28_2_20]; done) | (simp [FS28_2_20, *]; done) | (simp [FS28_2_20, gotV]; done) | (simp [FS28_2_20, gotV]; omega)), fun h => absurd h (by decide)⟩ (Below.refl _ _)
        | 22, _ =>
          injection ho with ho
          subst ho
          clear hl
          simp only [fillA, List.take, List.drop, put_none, Act.put, List.setIfInBounds_toArray, List.set_cons_zero, List.set_cons_succ, Nat.reduceAdd]
          have f9 := hf 9 (by decide) (by kernel_rfl)
          generalize vals 9 = v9 at *
          subst f9
          have f15 := hf 15 (by decide) (by kernel_rfl)
          generalize vals 15 = v15 at *
          subst f15
          have f21 := hf 21 (by decide) (by kernel_rfl)
          generalize vals 21 = v21 at *
          subst f21
          have f8 := hf 8 (by decide) (by kernel_rfl)
          generalize vals 8 = v8 at *
          subst f8
          clear hf
          have hc1 := cellOf hb1
          have hf1 := frozOf hb1
          have hz1 := sizeOf hb1
          try simp at hz1
          go_wp2_with (first | (go_at_call 53; refine (c_impl_inside _ _ _ _ ).mono ?_; rintro e w' ⟨rfl, hb⟩; have hc := cellOf hb; have hf := frozOf hb; have hz := sizeOf hb; try simp at hz))
          exact RQ.mk rfl ⟨(by first | rfl | (simp [FS28_2_20]; done) | (simp [FS28_2_20, *]; done) | (simp [FS28_2_20, gotV]; done) | (simp [FS28_2_20, gotV]; omega)), fun h => absurd h (by decide)⟩ (by (repeat' (first | exact Below.refl _ _ | assumption | refine Below.setCell ?_ ?_ _ | refine Below.drew ?_ | refine Below.alloc ?_ ?_ _ | refine Below.trans ?_ (Below.mono (by assumption) ?_) | (simp; done) | (simp; omega) | omega)))
        | 23, _ =>
          injection ho with ho
          subst ho
          clear hl
          simp only [fillA, List.take, List.drop, put_none, Act.put, List.setIfInBounds_toArray, List.set_cons_zero, List.set_cons_succ, Nat.reduceAdd]
          have f22 := hf 22 (by decide) (by kernel_rfl)
          generalize vals 22 = v22 at *
          subst f22
          have f8 := hf 8 (by decide) (by kernel_rfl)
          generalize vals 8 = v8 at *
          subst f8
          clear hf
          go_wp2_with (fail)
          exact RQ.mk rfl ⟨(by first | rfl | (simp [FS28_2_20]; done) | (simp [FS28_2_20, *]; done) | (simp [FS28_2_20, gotV]; done) | (simp [FS28_2_20, gotV]; omega)), fun h => absurd h (by decide)⟩ (Below.refl _ _)
        | 24, _ =>
          injection ho with ho
          subst ho
          clear hl
          simp only [fillA, List.take, List.drop, put_none, Act.put, List.setIfInBounds_toArray, List.set_cons_zero, List.set_cons_succ, Nat.reduceAdd]
          have f8 := hf 8 (by decide) (by kernel_rfl)
          generalize vals 8 = v8 at *
          subst f8
          have f23 := hf 23 (by decide) (by kernel_rfl)
          generalize vals 23 = v23 at *
          subst f23
          clear hf
          go_wp2_with (fail)
          exact RQ.mk rfl ⟨(by first | rfl | (simp [FS28_2_20]; done) | (simp [FS28_2_20, *]; done) | (simp [FS28_2_20, gotV]; done) | (simp [FS28_2_20, gotV]; omega)), fun h => absurd h (by decide)⟩ (Below.refl _ _)
        | m + 25, h => exact absurd h (by omega)
      · intro vals w1 hb1 hf hd
        simp only [fillA, List.take, List.drop, put_none, Act.put, List.setIfInBounds_toArray, List.set_cons_zero, List.set_cons_succ, Nat.reduceAdd]
        clear hd
        have f0 := hf 0 (by decide)
        generalize vals 0 = v0 at *
        subst f0
        have f1 := hf 1 (by decide)
        generalize vals 1 = v1 at *
        subst f1
        have f2 := hf 2 (by decide)
        generalize vals 2 = v2 at *
        subst f2
        have f3 := hf 3 (by decide)
        generalize vals 3 = v3 at *
        subst f3
        have f4 := hf 4 (by decide)
        generalize vals 4 = v4 at *
        subst f4
        have f5 := hf 5 (by decide)
        generalize vals 5 = v5 at *
        subst f5
        have f6 := hf 6 (by decide)
        generalize vals 6 = v6 at *
        subst f6
        have f7 := hf 7 (by decide)
        generalize vals 7 = v7 at *
        subst f7
        have f8 := hf 8 (by decide)
        generalize vals 8 = v8 at *
        subst f8
        have f9 := hf 9 (by decide)
        generalize vals 9 = v9 at *
        subst f9
        have f10 := hf 10 (by decide)
        generalize vals 10 = v10 at *
        subst f10
        have f11 := hf 11 (by decide)
        generalize vals 11 = v11 at *
        subst f11
        have f12 := hf 12 (by decide)
        generalize vals 12 = v12 at *
        subst f12
        have f13 := hf 13 (by decide)
        generalize vals 13 = v13 at *
        subst f13
        have f14 := hf 14 (by decide)
        generalize vals 14 = v14 at *
        subst f14
        have f15 := hf 15 (by decide)
        generalize vals 15 = v15 at *
        subst f15
        have f16 := hf 16 (by decide)
        generalize vals 16 = v16 at *
        subst f16
        have f17 := hf 17 (by decide)
        generalize vals 17 = v17 at *
        subst f17
        have f18 := hf 18 (by decide)
        generalize vals 18 = v18 at *
        subst f18
        have f19 := hf 19 (by decide)
        generalize vals 19 = v19 at *
        subst f19
        have f20 := hf 20 (by decide)
        generalize vals 20 = v20 at *
        subst f20
        have f21 := hf 21 (by decide)
        generalize vals 21 = v21 at *
        subst f21
        have f22 := hf 22 (by decide)
        generalize vals 22 = v22 at *
        subst f22
        have f23 := hf 23 (by decide)
        generalize vals 23 = v23 at *
        subst f23
        have f24 := hf 24 (by decide)
        generalize vals 24 = v24 at *
        subst f24
        clear hf
        have hc1 := cellOf hb1
        have hf1 := frozOf hb1
        have hz1 := sizeOf hb1
        try simp at hz1
        go_wp2_with (fail)
        go_ret2
        simp only [HV.out]
        exact ⟨none, 0, rfl, .inl ⟨rfl, rfl, rfl⟩, by (repeat' (first | exact Below.refl _ _ | assumption | refine Below.setCell ?_ ?_ _ | refine Below.drew ?_ | refine Below.alloc ?_ ?_ _ | refine Below.trans ?_ (Below.mono (by assumption) ?_) | (simp; done) | (simp; omega) | omega))⟩
    have HV := hid (leaveV_some hs0 (leaveL_at hlt hfi hi))
    clear hfi
    obtain ⟨x, hxk⟩ : ∃ x, x = xs[k] := ⟨_, rfl⟩
    simp only [← hxk] at hx3 hx4 hxb hi HV
    have HXK := hid hxk
    clear hxk
    go_enter Try.func28, Try.ntmps28
    go_wp2_with (first | (go_at_call 62; refine (c_idx_same _ _ _ z w.heap.size _ (by first | assumption | exact Rds.below hx (by (repeat' (first | exact Below.refl _ _ | assumption | refine Below.setCell ?_ ?_ _ | refine Below.drew ?_ | refine Below.alloc ?_ ?_ _ | refine Below.trans ?_ (Below.mono (by assumption) ?_) | (simp; done) | (simp; omega) | omega)))) (by omega) (by first | assumption | (simp [go_sem, ↓IntWalk.iteOmega, *]; done)) (by first | omega | (simp; done) | (simp; omega))).mono ?_; rintro e w' ⟨rfl, hb⟩; have hc := cellOf hb; have hf := frozOf hb; have hz := sizeOf hb; try simp at hz))
    refine wp_region_w (n := 25) [] [] (FS28_2_21 q xs h xs.length cap x k bx ox w) rfl (by kernel_rfl) (fun _ _ d _ _ h => by cases d <;> exact h) ?_ ?_ ?_ ?_ ?_ ?_
    · intro iq
      match iq with
      | 0 | 1 | 2 | 3 | 4 | 5 | 6 | 7 | 8 | 9 | 10 | 11 | 12 | 13 | 14 | 15 | 16 | 17 | 18 | 19 | 20 | 21 | 22 | 23 | 24 => exact Stable.const _
      | n + 25 => exact Stable.const _
    · intro iq hi
      exact absurd hi (by simp)
    · intro iq hi
      exact absurd hi (by simp)
    · intro iq o hi hl ho vals w1 hb1 hf
      exact absurd hl (by simp)
    · intro iq o hi hl ho vals w1 hb1 hf
      match iq, hi with
      | 0, _ =>
        injection ho with ho
        subst ho
        clear hl
        simp only [fillA, List.take, List.drop, put_none, Act.put, List.setIfInBounds_toArray, List.set_cons_zero, List.set_cons_succ, Nat.reduceAdd]
        clear hf
        go_wp2_with (fail)
        exact RQ.mk rfl ⟨(by first | rfl | (simp [FS28_2_21]; done) | (simp [FS28_2_21, *]; done) | (simp [FS28_2_21, gotV]; done) | (simp [FS28_2_21, gotV]; omega)), fun h => absurd h (by decide)⟩ (Below.refl _ _)
      | 1, _ =>
        injection ho with ho
        subst ho
        clear hl
        simp only [fillA, List.take, List.drop, put_none, Act.put, List.setIfInBounds_toArray, List.set_cons_zero, List.set_cons_succ, Nat.reduceAdd]
        clear hf
        go_wp2_with (fail)
        exact RQ.mk rfl ⟨(by first | rfl | (simp [FS28_2_21]; done) | (simp [FS28_2_21, *]; done) | (simp [FS28_2_21, gotV]; done) | (simp [FS28_2_21, gotV]; omega)), fun h => absurd h (by decide)⟩ (Below.refl _ _)
      | 2, _ =>
        injection ho with ho
        subst ho
        clear hl
        simp only [fillA, List.take, List.drop, put_none, Act.put, List.setIfInBounds_toArray, List.set_cons_zero, List.set_cons_succ, Nat.reduceAdd]
        have f0 := hf 0 (by decide) (by kernel_rfl)
        generalize vals 0 = v0 at *
        subst f0
        have f1 := hf 1 (by decide) (by kernel_rfl)
        generalize vals 1 = v1 at *
        subst f1
        clear hf
        have hc1 := cellOf hb1
        have hf1 := frozOf hb1
        have hz1 := sizeOf hb1
        try simp at hz1
        go_wp2_with (first | (go_at_call 17; refine (c_impl_IsBerthing _ _ _ _ _ (by first | assumption | exact Rds.below hx (by (repeat' (first | exact Below.refl _ _ | assumption | refine Below.setCell ?_ ?_ _ | refine Below.drew ?_ | refine Below.alloc ?_ ?_ _ | refine Below.trans ?_ (Below.mono (by assumption) ?_) | (simp; done) | (simp; omega) | omega)))) (by omega) (by omega) (by omega)).mono ?_; rintro e w' ⟨rfl, hb⟩; have hc := cellOf hb; have hf := frozOf hb; have hz := sizeOf hb; try simp at hz))
        exact RQ.mk rfl ⟨(by first | rfl | (simp [FS28_2_21]; done) | (simp [FS28_2_21, *]; done) | (simp [FS28_2_21, gotV]; done) | (simp [FS28_2_21, gotV]; omega)), fun h => absurd h (by decide)⟩ (by (repeat' (first | exact Below.refl _ _ | assumption | refine Below.setCell ?_ ?_ _ | refine Below.drew ?_ | refine Below.alloc ?_ ?_ _ | refine Below.trans ?_ (Below.mono (by assumption) ?_) | (simp; done) | (simp; omega) | omega)))
      | 3, _ =>
        injection ho with ho
        subst ho
        clear hl
        simp only [fillA, List.take, List.drop, put_none, Act.put, List.setIfInBounds_toArray, List.set_cons_zero, List.set_cons_succ, Nat.reduceAdd]
        have f2 := hf 2 (by decide) (by kernel_rfl)
        generalize vals 2 = v2 at *
        subst f2
        clear hf
        go_wp2_with (fail)
        exact RQ.mk rfl ⟨(by first | rfl | (simp [FS28_2_21]; done) | (simp [FS28_2_21, *]; done) | (simp [FS28_2_21, gotV]; done) | (simp [FS28_2_21, gotV]; omega)), fun h => absurd h (by decide)⟩ (Below.refl _ _)
      | 4, _ =>
        injection ho with ho
        subst ho
        clear hl
        simp only [fillA, List.take, List.drop, put_none, Act.put, List.setIfInBounds_toArray, List.set_cons_zero, List.set_cons_succ, Nat.reduceAdd]
        have f3 := hf 3 (by decide) (by kernel_rfl)
        generalize vals 3 = v3 at *
        subst f3
        have f2 := hf 2 (by decide) (by kernel_rfl)
        generalize vals 2 = v2 at *
        subst f2
        clear hf
        go_wp2_with (fail)
        exact RQ.mk rfl ⟨(by first | rfl | (simp [FS28_2_21]; done) | (simp [FS28_2_21, *]; done) | (simp [FS28_2_21, gotV]; done) | (simp [FS28_2_21, gotV]; omega)), fun h => absurd h (by decide)⟩ (Below.refl _ _)
      | 5, _ =>
        injection ho with ho
        subst ho
        clear hl
        simp only [fillA, List.take, List.drop, put_none, Act.put, List.setIfInBounds_toArray, List.set_cons_zero, List.set_cons_succ, Nat.reduceAdd]
        have f4 := hf 4 (by decide) (by kernel_rfl)
        generalize vals 4 = v4 at *
        subst f4
        clear hf
        go_wp2_with (fail)
        exact RQ.mk rfl ⟨(by first | rfl | (simp [FS28_2_21]; done) | (simp [FS28_2_21, *]; done) | (simp [FS28_2_21, gotV]; done) | (simp [FS28_2_21, gotV]; omega)), fun h => absurd h (by decide)⟩ (Below.refl _ _)
      | 6, _ =>
        injection ho with ho
        subst ho
        clear hl
        simp only [fillA, List.take, List.drop, put_none, Act.put, List.setIfInBounds_toArray, List.set_cons_zero, List.set_cons_succ, Nat.reduceAdd]
        have f5 := hf 5 (by decide) (by kernel_rfl)
        generalize vals 5 = v5 at *
        subst f5
        have f4 := hf 4 (by decide) (by kernel_rfl)
        generalize vals 4 = v4 at *
        subst f4
        clear hf
        go_wp2_with (fail)
        exact RQ.mk rfl ⟨(by first | rfl | (simp [FS28_2_21]; done) | (simp [FS28_2_21, *]; done) | (simp [FS28_2_21, gotV]; done) | (simp [FS28_2_21, gotV]; omega)), fun h => absurd h (by decide)⟩ (Below.refl _ _)
      | 7, _ =>
        injection ho with ho
        subst ho
        clear hl
        simp only [fillA, List.take, List.drop, put_none, Act.put, List.setIfInBounds_toArray, List.set_cons_zero, List.set_cons_succ, Nat.reduceAdd]
        have f4 := hf 4 (by decide) (by kernel_rfl)
        generalize vals 4 = v4 at *
        subst f4
        have f6 := hf 6 (by decide) (by kernel_rfl)
        generalize vals 6 = v6 at *
        subst f6
        clear hf
        go_wp2_with (fail)
        exact RQ.mk rfl ⟨(by first | rfl | (simp [FS28_2_21]; done) | (simp [FS28_2_21, *]; done) | (simp [FS28_2_21, gotV]; done) | (simp [FS28_2_21, gotV]; omega)), fun h => absurd h (by decide)⟩ (Below.refl _ _)
      | 8, _ =>
        injection ho with ho
        subst ho
        clear hl
        simp only [fillA, List.take, List.drop, put_none, Act.put, List.setIfInBounds_toArray, List.set_cons_zero, List.set_cons_succ, Nat.reduceAdd]
        have f7 := hf 7 (by decide) (by kernel_rfl)
        generalize vals 7 = v7 at *
        subst f7
        have f4 := hf 4 (by decide) (by kernel_rfl)
        generalize vals 4 = v4 at *
        subst f4
        clear hf
        go_wp2_with (fail)
        exact RQ.mk rfl ⟨(by first | rfl | (simp [FS28_2_21]; done) | (simp [FS28_2_21, *]; done) | (simp [FS28_2_21, gotV]; done) | (simp [FS28_2_21, gotV]; omega)), fun h => absurd h (by decide)⟩ (Below.refl _ _)
      | 9, _ =>
        injection ho with ho
        subst ho
        clear hl
        simp only [fillA, List.take, List.drop, put_none, Act.put, List.setIfInBounds_toArray, List.set_cons_zero, List.set_cons_succ, Nat.reduceAdd]
        have f8 := hf 8 (by decide) (by kernel_rfl)
        generalize vals 8 = v8 at *
        subst f8
        clear hf
        go_wp2_with (fail)
        exact RQ.mk rfl ⟨(by first | rfl | (simp [FS28_2_21]; done) | (simp [FS28_2_21, *]; done) | (simp [FS28_2_21, gotV]; done) | (simp [FS28_2_21, gotV]; omega)), fun h => absurd h (by decide)⟩ (Below.refl _ _)
      | 10, _ =>
        injection ho with ho
        subst ho
        clear hl
        simp only [fillA, List.take, List.drop, put_none, Act.put, List.setIfInBounds_toArray, List.set_cons_zero, List.set_cons_succ, Nat.reduceAdd]
        have f8 := hf 8 (by decide) (by kernel_rfl)
        generalize vals 8 = v8 at *
        subst f8
        clear hf
        go_wp2_with (fail)
        exact RQ.mk rfl ⟨(by first | rfl | (simp [FS28_2_21]; done) | (simp [FS28_2_21, *]; done) | (simp [FS28_2_21, gotV]; done) | (simp [FS28_2_21, gotV]; omega)), fun h => absurd h (by decide)⟩ (Below.refl _ _)
      | 11, _ =>
        injection ho with ho
        subst ho
        clear hl
        simp only [fillA, List.take, List.drop, put_none, Act.put, List.setIfInBounds_toArray, List.set_cons_zero, List.set_cons_succ, Nat.reduceAdd]
        have f8 := hf 8 (by decide) (by kernel_rfl)
        generalize vals 8 = v8 at *
        subst f8
        clear hf
        go_wp2_with (fail)
        exact RQ.mk rfl ⟨(by first | rfl | (simp [FS28_2_21]; done) | (simp [FS28_2_21, *]; done) | (simp [FS28_2_21, gotV]; done) | (simp [FS28_2_21, gotV]; omega)), fun h => absurd h (by decide)⟩ (Below.refl _ _)
      | 12, _ =>
        injection ho with ho
        subst ho
        clear hl
        simp only [fillA, List.take, List.drop, put_none, Act.put, List.setIfInBounds_toArray, List.set_cons_zero, List.set_cons_succ, Nat.reduceAdd]
        have f10 := hf 10 (by decide) (by kernel_rfl)
        generalize vals 10 = v10 at *
        subst f10
        have f11 := hf 11 (by decide) (by kernel_rfl)
        generalize vals 11 = v11 at *
        subst f11
        have f8 := hf 8 (by decide) (by kernel_rfl)
        generalize vals 8 = v8 at *
        subst f8
        clear hf
        go_wp2_with (fail)
        exact RQ.mk rfl ⟨(by first | rfl | (simp [FS28_2_21]; done) | (simp [FS28_2_21, *]; done) | (simp [FS28_2_21, gotV]; done) | (simp [FS28_2_21, gotV]; omega)), fun h => absurd h (by decide)⟩ (Below.refl _ _)
      | 13, _ =>
        injection ho with ho
        subst ho
        clear hl
        simp only [fillA, List.take, List.drop, put_none, Act.put, List.setIfInBounds_toArray, List.set_cons_zero, List.set_cons_succ, Nat.reduceAdd]
        have f12 := hf 12 (by decide) (by kernel_rfl)
        generalize vals 12 = v12 at *
        subst f12
        have f8 := hf 8 (by decide) (by kernel_rfl)
        generalize vals 8 = v8 at *
        subst f8
        clear hf
        go_wp2_with (fail)
        exact RQ.mk rfl ⟨(by first | rfl | (simp [FS28_2_21]; done) | (simp [FS28_2_21, *]; done) | (simp [FS28_2_21, gotV]; done) | (simp [FS28_2_21, gotV]; omega)), fun h => absurd h (by decide)⟩ (Below.refl _ _)
      | 14, _ =>
        injection ho with ho
        subst ho
        clear hl
        simp only [fillA, List.take, List.drop, put_none, Act.put, List.setIfInBounds_toArray, List.set_cons_zero, List.set_cons_succ, Nat.reduceAdd]
        have f13 := hf 13 (by decide) (by kernel_rfl)
        generalize vals 13 = v13 at *
        subst f13
        have f8 := hf 8 (by decide) (by kernel_rfl)
        generalize vals 8 = v8 at *
        subst f8
        clear hf
        have hc1 := cellOf hb1
        have hf1 := frozOf hb1
        have hz1 := sizeOf hb1
        try simp at hz1
        go_wp2_with (fail)
        exact RQ.mk rfl ⟨(by first | rfl | (simp [FS28_2_21]; done) | (simp [FS28_2_21, *]; done) | (simp [FS28_2_21, gotV]; done) | (simp [FS28_2_21, gotV]; omega)), fun h => absurd h (by decide)⟩ (Below.refl _ _)
      | 15, _ =>
        injection ho with ho
        subst ho
        clear hl
        simp only [fillA, List.take, List.drop, put_none, Act.put, List.setIfInBounds_toArray, List.set_cons_zero, List.set_cons_succ, Nat.reduceAdd]
        have f14 := hf 14 (by decide) (by kernel_rfl)
        generalize vals 14 = v14 at *
        subst f14
        have f8 := hf 8 (by decide) (by kernel_rfl)
        generalize vals 8 = v8 at *
        subst f8
        clear hf
        go_wp2_with (fail)
        exact RQ.mk rfl ⟨(by first | rfl | (simp [FS28_2_21]; done) | (simp [FS28_2_21, *]; done) | (simp [FS28_2_21, gotV]; done) | (simp [FS28_2_21, gotV]; omega)), fun h => absurd h (by decide)⟩ (Below.refl _ _)
      | 16, _ =>
        injection ho with ho
        subst ho
        clear hl
        simp only [fillA, List.take, List.drop, put_none, Act.put, List.setIfInBounds_toArray, List.set_cons_zero, List.set_cons_succ, Nat.reduceAdd]
        have f8 := hf 8 (by decide) (by kernel_rfl)
        generalize vals 8 = v8 at *
        subst f8
        clear hf
        go_wp2_with (fail)
        exact RQ.mk rfl ⟨(by first | rfl | (simp [FS28_2_21]; done) | (simp [FS28_2_21, *]; done) | (simp [FS28_2_21, gotV]; done) | (simp [FS28_2_21, gotV]; omega)), fun h => absurd h (by decide)⟩ (Below.refl _ _)
      | 17, _ =>
        injection ho with ho
        subst ho
        clear hl
        simp only [fillA, List.take, List.drop, put_none, Act.put, List.setIfInBounds_toArray, List.set_cons_zero, List.set_cons_succ, Nat.reduceAdd]
        have f8 := hf 8 (by decide) (by kernel_rfl)
        generalize vals 8 = v8 at *
        subst f8
        clear hf
        go_wp2_with (fail)
        exact RQ.mk rfl ⟨(by first | rfl | (simp [FS28_2_21]; done) | (simp [FS28_2_21, *]; done) | (simp [FS28_2_21, gotV]; done) | (simp [FS28_2_21, gotV]; omega)), fun h => absurd h (by decide)⟩ (Below.refl _ _)
      | 18, _ =>
        injection ho with ho
        subst ho
        clear hl
        simp only [fillA, List.take, List.drop, put_none, Act.put, List.setIfInBounds_toArray, List.set_cons_zero, List.set_cons_succ, Nat.reduceAdd]
        have f16 := hf 16 (by decide) (by kernel_rfl)
        generalize vals 16 = v16 at *
        subst f16
        have f17 := hf 17 (by decide) (by kernel_rfl)
        generalize vals 17 = v17 at *
        subst f17
        have f8 := hf 8 (by decide) (by kernel_rfl)
        generalize vals 8 = v8 at *
        subst f8
        clear hf
        go_wp2_with (fail)
        exact RQ.mk rfl ⟨(by first | rfl | (simp [FS28_2_21]; done) | (simp [FS28_2_21, *]; done) | (simp [FS28_2_21, gotV]; done) | (simp [FS28_2_21, gotV]; omega)), fun h => absurd h (by decide)⟩ (Below.refl _ _)
      | 19, _ =>
        injection ho with ho
        subst ho
        clear hl
        simp only [fillA, List.take, List.drop, put_none, Act.put, List.setIfInBounds_toArray, List.set_cons_zero, List.set_cons_succ, Nat.reduceAdd]
        have f18 := hf 18 (by decide) (by kernel_rfl)
        generalize vals 18 = v18 at *
        subst f18
        have f8 := hf 8 (by decide) (by kernel_rfl)
        generalize vals 8 = v8 at *
        subst f8
        clear hf
        go_wp2_with (fail)
        exact RQ.mk rfl ⟨(by first | rfl | (simp [FS28_2_21]; done) | (simp [FS28_2_21, *]; done) | (simp [FS28_2_21, gotV]; done) | (simp [FS28_2_21, gotV]; omega)), fun h => absurd h (by decide)⟩ (Below.refl _ _)
      | 20, _ =>
        injection ho with ho
        subst ho
        clear hl
        simp only [fillA, List.take, List.drop, put_none, Act.put, List.setIfInBounds_toArray, List.set_cons_zero, List.set_cons_succ, Nat.reduceAdd]
        have f19 := hf 19 (by decide) (by kernel_rfl)
        generalize vals 19 = v19 at *
        subst f19
        have f8 := hf 8 (by decide) (by kernel_rfl)
        generalize vals 8 = v8 at *
        subst f8
        clear hf
        have hc1 := cellOf hb1
        have hf1 := frozOf hb1
        have hz1 := sizeOf hb1
        try simp at hz1
        go_wp2_with (fail)
        exact RQ.mk rfl ⟨(by first | rfl | (simp [FS28_2_21]; done) | (simp [FS28_2_21, *]; done) | (simp [FS28_2_21, gotV]; done) | (simp [FS28_2_21, gotV]; omega)), fun h => absurd h (by decide)⟩ (Below.refl _ _)
      | 21, _ =>
        injection ho with ho
        subst ho
        clear hl
        simp only [fillA, List.take, List.drop, put_none, Act.put, List.setIfInBounds_toArray, List.set_cons_zero, List.set_cons_succ, Nat.reduceAdd]
        have f20 := hf 20 (by decide) (by kernel_rfl)
        generalize vals 20 = v20 at *
        subst f20
        have f8 := hf 8 (by decide) (by kernel_rfl)
        generalize vals 8 = v8 at *
        subst f8
        clear hf
        go_wp2_with (fail)
        exact RQ.mk rfl ⟨(by first | rfl | (simp [FS28_2_21]; done) | (simp [FS28_2_21, *]; done) | (simp [FS28_2_21, gotV]; done) | (simp [FS28_2_21, gotV]; omega)), fun h => absurd h (by decide)⟩ (Below.refl _ _)
      | 22, _ =>
        injection ho with ho
        subst ho
        clear hl
        simp only [fillA, List.take, List.drop, put_none, Act.put, List.setIfInBounds_toArray, List.set_cons_zero, List.set_cons_succ, Nat.reduceAdd]
        have f9 := hf 9 (by decide) (by kernel_rfl)
        generalize vals 9 = v9 at *
        subst f9
        have f15 := hf 15 (by decide) (by kernel_rfl)
        generalize vals 15 = v15 at *
        subst f15
        have f21 := hf 21 (by decide) (by kernel_rfl)
        generalize vals 21 = v21 at *
        subst f21
        have f8 := hf 8 (by decide) (by kernel_rfl)
        generalize vals 8 = v8 at *
        subst f8
        clear hf
        have hc1 := cellOf hb1
        have hf1 := frozOf hb1
        have hz1 := sizeOf hb1
        try simp at hz1
        go_wp2_with (first | (go_at_call 53; refine (c_impl_inside _ _ _ _ ).mono ?_; rintro e w' ⟨rfl, hb⟩; have hc := cellOf hb; have hf := frozOf hb; have hz := sizeOf hb; try simp at hz))
        exact RQ.mk rfl ⟨(by first | rfl | (simp [FS28_2_21]; done) | (simp [FS28_2_21, *]; done) | (simp [FS28_2_21, gotV]; done) | (simp [FS28_2_21, gotV]; omega)), fun h => absurd h (by decide)⟩ (by (repeat' (first | exact Below.refl _ _ | assumption | refine Below.setCell ?_ ?_ _ | refine Below.drew ?_ | refine Below.alloc ?_ ?_ _ | refine Below.trans ?_ (Below.mono (by assumption) ?_) | (simp; done) | (simp; omega) | omega)))
      | 23, _ =>
        injection ho with ho
        subst ho
        clear hl
        simp only [fillA, List.take, List.drop, put_none, Act.put, List.setIfInBounds_toArray, List.set_cons_zero, List.set_cons_succ, Nat.reduceAdd]
        have f22 := hf 22 (by decide) (by kernel_rfl)
        generalize vals 22 = v22 at *
        subst f22
        have f8 := hf 8 (by decide) (by kernel_rfl)
        generalize vals 8 = v8 at *
        subst f8
        clear hf
        go_wp2_with (fail)
        exact RQ.mk rfl ⟨(by first | rfl | (simp [FS28_2_21]; done) | (simp [FS28_2_21, *]; done) | (simp [FS28_2_21, gotV]; done) | (simp [FS28_2_21, gotV]; omega)), fun h => absurd h (by decide)⟩ (Below.refl _ _)
      | 24, _ =>
        injection ho with ho
        subst ho
        clear hl
        simp only [fillA, List.take, List.drop, put_none, Act.put, List.setIfInBounds_toArray, List.set_cons_zero, List.set_cons_succ, Nat.reduceAdd]
        have f8 := hf 8 (by decide) (by kernel_rfl)
        generalize vals 8 = v8 at *
        subst f8
        have f23 := hf 23 (by decide) (by kernel_rfl)
        generalize vals 23 = v23 at *
        subst f23
        clear hf
        go_wp2_with (fail)
        exact RQ.mk rfl ⟨(by first | rfl | (simp [FS28_2_21]; done) | (simp [FS28_2_21, *]; done) | (simp [FS28_2_21, gotV]; done) | (simp [FS28_2_21, gotV]; omega)), fun h => absurd h (by decide)⟩ (Below.refl _ _)
      | m + 25, h => exact absurd h (by omega)
    · intro vals w1 hb1 hf hd
      simp only [fillA, List.take, List.drop, put_none, Act.put, List.setIfInBounds_toArray, List.set_cons_zero, List.set_cons_succ, Nat.reduceAdd]
      clear hd
      have f0 := hf 0 (by decide)
      generalize vals 0 = v0 at *
      subst f0
      have f1 := hf 1 (by decide)
      generalize vals 1 = v1 at *
      subst f1
      have f2 := hf 2 (by decide)
      generalize vals 2 = v2 at *
      subst f2
      have f3 := hf 3 (by decide)
      generalize vals 3 = v3 at *
      subst f3
      have f4 := hf 4 (by decide)
      generalize vals 4 = v4 at *
      subst f4
      have f5 := hf 5 (by decide)
      generalize vals 5 = v5 at *
      subst f5
      have f6 := hf 6 (by decide)
      generalize vals 6 = v6 at *
      subst f6
      have f7 := hf 7 (by decide)
      generalize vals 7 = v7 at *
      subst f7
      have f8 := hf 8 (by decide)
      generalize vals 8 = v8 at *
      subst f8
      have f9 := hf 9 (by decide)
      generalize vals 9 = v9 at *
      subst f9
      have f10 := hf 10 (by decide)
      generalize vals 10 = v10 at *
      subst f10
      have f11 := hf 11 (by decide)
      generalize vals 11 = v11 at *
      subst f11
      have f12 := hf 12 (by decide)
      generalize vals 12 = v12 at *
      subst f12
      have f13 := hf 13 (by decide)
      generalize vals 13 = v13 at *
      subst f13
      have f14 := hf 14 (by decide)
      generalize vals 14 = v14 at *
      subst f14
      have f15 := hf 15 (by decide)
      generalize vals 15 = v15 at *
      subst f15
      have f16 := hf 16 (by decide)
      generalize vals 16 = v16 at *
      subst f16
      have f17 := hf 17 (by decide)
      generalize vals 17 = v17 at *
      subst f17
      have f18 := hf 18 (by decide)
      generalize vals 18 = v18 at *
      subst f18
      have f19 := hf 19 (by decide)
      generalize vals 19 = v19 at *
      subst f19
      have f20 := hf 20 (by decide)
      generalize vals 20 = v20 at *
      subst f20
      have f21 := hf 21 (by decide)
      generalize vals 21 = v21 at *
      subst f21
      have f22 := hf 22 (by decide)
      generalize vals 22 = v22 at *
      subst f22
      have f23 := hf 23 (by decide)
      generalize vals 23 = v23 at *
      subst f23
      have f24 := hf 24 (by decide)
      generalize vals 24 = v24 at *
      subst f24
      clear hf
      have hc1 := cellOf hb1
      have hf1 := frozOf hb1
      have hz1 := sizeOf hb1
      try simp at hz1
      go_wp2_with (at_builtin; refine wpList_pushes (xs := ([] : List (Int × Int × Int × Int × Int))) rfl (.tmp 40) (.tmp 41) 25 rfl 48 i0 _ 40 Try.underlying25 hI0 hI1 hI2 hI3 rfl (by decide) (fun _ => rfl) one_Ber 0 rfl rfl (FreshA.new (B := w.heap.size) (by first | omega | (simp; omega) | (simp at *; omega))) xs _ rfl bx ox _ rfl ?_ ?_ ?_ ?_ ?_; (exact fun p hp j u hu => (Below.cell (p := ⟨bx, _, none⟩) (show Below w.heap.size w _ by (repeat' (first | exact Below.refl _ _ | assumption | refine Below.setCell ?_ ?_ _ | refine Below.drew ?_ | refine Below.alloc ?_ ?_ _ | refine Below.trans ?_ (Below.mono (by assumption) ?_) | (simp; done) | (simp; omega) | omega))) hbx).trans (HX.out p hp j u hu)); (unfold maxLen; omega); omega; (simp; omega); intro A3 cp3 w3 hF3 hg3 hat3; simp only [List.nil_append, Nat.zero_add] at hF3; have hb3 := below_of_grown (B := w.heap.size) hg3 (fun a ha => by cases ha; first | omega | (simp; omega) | (simp at *; omega)) (by simp; omega); have hs3 := hg3.size; (try simp at hs3); have hBB : Below w.heap.size w w3 := Below.trans (show Below w.heap.size w _ by (repeat' (first | exact Below.refl _ _ | assumption | refine Below.setCell ?_ ?_ _ | refine Below.drew ?_ | refine Below.alloc ?_ ?_ _ | refine Below.trans ?_ (Below.mono (by assumption) ?_) | (simp; done) | (simp; omega) | omega))) hb3; obtain ⟨g3, rfl, hB3, hO3⟩ := FreshA.row hF3 (by omega); have hle3 : xs.length ≤ cp3 := (by obtain ⟨_, _, _, h, _⟩ := hO3; exact h); have hfz3 : ∀ o, w3.frozen? ⟨g3, o, none⟩ = false := fun o => hO3.frozen o; have hlt3 := hO3.lt; obtain ⟨u4, hu4⟩ := hO3.cell (k * 5 + 4) (by omega); have HO3 := hid hO3; clear hO3 hF3)
      go_ret2
      simp only [HV.out]
      refine ⟨some ⟨g3, 0, none⟩, cp3, by simp, .inr ⟨g3, rfl, hB3, ?_⟩, by (repeat' (first | exact Below.refl _ _ | assumption | refine Below.setCell ?_ ?_ _ | refine Below.drew ?_ | refine Below.alloc ?_ ?_ _ | refine Below.trans ?_ (Below.mono (by assumption) ?_) | (simp; done) | (simp; omega) | omega))⟩
      rw [HXK.out]
      exact OwnS.put1 (fun _ => rfl) HO3.out hlt (by decide) rfl

end Go.Proofs.Ytfipmalomhflgaa
