import Derived.Test.YteciijnpfapmhaaQB03
import Derived.Test.YteciijnpfapmhaaQB08
namespace Go.Proofs.Yteciijnpfapmhaa
set_option linter.unusedSimpArgs false
set_option linter.unusedVariables false
open Go.RowKit

def FS17_4 (d : Int) (wr : World) (x y : Int × Int) (bx ox k n0 cap : Nat) (w W0 : World) (iq : Nat) (v : Value) (w1 : World) : Prop := match iq with
 | 0 => v = .agg #[.int .i64 (x.1), .int .i64 (x.2)]
 | 1 => v = .bool (true)
 | 2 => v = .bool (false)
 | 3 => v = .bool (false)
 | 4 => v = .int .i64 (0)
 | 5 => v = .bool (false)
 | 6 => v = .bool (false)
 | 7 => v = undef
 | 8 => v = undef
 | 9 => v = undef
 | 10 => v = undef
 | 11 => v = undef
 | 12 => v = undef
 | 13 => v = undef
 | 14 => v = undef
 | 15 => v = undef
 | 16 => v = undef
 | 17 => v = .bool (false)
 | 18 => v = .bool (false)
 | _ => True

def FS17_4_2 (d : Int) (wr : World) (x y : Int × Int) (bx ox k n0 cap : Nat) (w W0 : World) (iq : Nat) (v : Value) (w1 : World) : Prop := match iq with
 | 0 => v = .agg #[.int .i64 (x.1), .int .i64 (x.2)]
 | 1 => v = .bool (false)
 | 2 => v = .bool (true)
 | 3 => v = .bool (true)
 | 4 => v = undef
 | 5 => v = undef
 | 6 => v = undef
 | 7 => v = undef
 | 8 => v = undef
 | 9 => v = undef
 | 10 => v = undef
 | 11 => v = undef
 | 12 => v = undef
 | 13 => v = undef
 | 14 => v = undef
 | 15 => v = undef
 | 16 => v = undef
 | 17 => v = undef
 | 18 => v = .bool (true)
 | _ => True

def FS17_4_3 (d : Int) (wr : World) (x y : Int × Int) (bx ox k n0 cap : Nat) (w W0 : World) (iq : Nat) (v : Value) (w1 : World) : Prop := match iq with
 | 0 => v = .agg #[.int .i64 (x.1), .int .i64 (x.2)]
 | 1 => v = .bool (false)
 | 2 => v = .bool (true)
 | 3 => v = .bool (true)
 | 4 => v = undef
 | 5 => v = undef
 | 6 => v = undef
 | 7 => v = undef
 | 8 => v = undef
 | 9 => v = undef
 | 10 => v = undef
 | 11 => v = undef
 | 12 => v = undef
 | 13 => v = undef
 | 14 => v = undef
 | 15 => v = undef
 | 16 => v = undef
 | 17 => v = undef
 | 18 => v = .bool (true)
 | _ => True

def FS17_4_4 (d : Int) (wr : World) (x y : Int × Int) (bx ox k n0 cap : Nat) (w W0 : World) (iq : Nat) (v : Value) (w1 : World) : Prop := match iq with
 | 0 => v = .agg #[.int .i64 (x.1), .int .i64 (x.2)]
 | 1 => v = .bool (true)
 | 2 => v = .bool (false)
 | 3 => v = .bool (false)
 | 4 => v = .int .i64 (k + 1)
 | 5 => v = .bool (true)
 | 6 => v = .bool (true)
 | 7 => v = .pointer (some ⟨w.heap.size, 1, none⟩)
 | 8 => v = .slice (some ⟨bx, ox, none⟩) n0 cap
 | 9 => v = .int .i64 (k + 1)
 | 10 => v = .int .i64 (k)
 | 11 => v = .pointer (some ⟨bx, ox + k * 2, none⟩)
 | 12 => v = .pointer (some ⟨bx, ox + k * 2 + 1, none⟩)
 | 13 => v = .int .i64 (y.2)
 | 14 => v = .pointer (some ⟨wr.heap.size, 0, none⟩)
 | 15 => v = .int .i64 (x.1)
 | 16 => v = .bool (false)
 | 17 => v = .bool (false)
 | 18 => v = .bool (false)
 | _ => True

def FS17_4_5 (d : Int) (wr : World) (x y : Int × Int) (bx ox k n0 cap : Nat) (w W0 : World) (iq : Nat) (v : Value) (w1 : World) : Prop := match iq with
 | 0 => v = .agg #[.int .i64 (x.1), .int .i64 (x.2)]
 | 1 => v = .bool (true)
 | 2 => v = .bool (false)
 | 3 => v = .bool (false)
 | 4 => v = .int .i64 (k + 1)
 | 5 => v = .bool (true)
 | 6 => v = .bool (true)
 | 7 => v = .pointer (some ⟨w.heap.size, 1, none⟩)
 | 8 => v = .slice (some ⟨bx, ox, none⟩) n0 cap
 | 9 => v = .int .i64 (k + 1)
 | 10 => v = .int .i64 (k)
 | 11 => v = .pointer (some ⟨bx, ox + k * 2, none⟩)
 | 12 => v = .pointer (some ⟨bx, ox + k * 2 + 1, none⟩)
 | 13 => v = .int .i64 (y.2)
 | 14 => v = .pointer (some ⟨wr.heap.size, 0, none⟩)
 | 15 => v = .int .i64 (x.1)
 | 16 => v = .bool (true)
 | 17 => v = .bool (true)
 | 18 => v = .bool (true)
 | _ => True

set_option maxRecDepth 100000 in
set_option maxHeartbeats 4000000 in
theorem c_impl_IsValidBridge (d : Int) (A : Option Addr) (xs : List (Int × Int)) (cap : Nat) (w : World) (h0 : Rds cIv 2 w A xs) (hn : xs.length ≤ 9223372036854775807) :
  Calls Try.prog 17 #[.agg #[.int .i64 d, .slice A xs.length cap]] w fun e w' => e = .returned (.bool (brB d xs)) ∧ Below w.heap.size w w' := by
 skip
 go_enter Try.func17, Try.ntmps17
 go_wp2_with (first | (go_at_call 53; refine (c_impl_inside _ _ _ _ ).mono ?_; rintro e w' ⟨rfl, hb⟩; have hc := cellOf hb; have hf := frozOf hb; have hz := sizeOf hb; try simp at hz))
 go_loopw [8] (fun i wr => ∃ k : Nat, k ≤ xs.length ∧ i = .int .i64 k ∧ (∀ j, j < k → vAt ivOk ivLt xs j = true) ∧ wr.cell? ⟨w.heap.size, 0, none⟩ = some (.int .i64 d) ∧ wr.cell? ⟨w.heap.size, 1, none⟩ = some (.slice A xs.length cap) ∧ w.heap.size + 1 ≤ wr.heap.size ∧ Below w.heap.size w wr) (fun i _ => xs.length - (intOf i).toNat)
 case atStart =>
  refine ⟨0, Nat.zero_le _, rfl, fun j hj => absurd hj (Nat.not_lt_zero j), ?_, ?_, ?_, by (repeat' (first | exact Below.refl _ _ | assumption | refine Below.setCell ?_ ?_ _ | refine Below.drew ?_ | refine Below.alloc ?_ ?_ _ | refine Below.trans ?_ (Below.mono (by assumption) ?_) | (simp; done) | (simp; omega) | omega))⟩
  all_goals first | (simp [go_sem, ↓IntWalk.iteOmega, *]; done) | (simp at *; omega)
 case round =>
  obtain ⟨k, hk, rfl, hl, hp0, hp1, hzz, hbr⟩ := hrel
  have hc := cellOf hbr
  have hf := frozOf hbr
  have hz := sizeOf hbr
  by_cases hlt : k < xs.length
  ·obtain ⟨bx, ox, rfl, hbx, hcx⟩ := Rds.all h0 (by omega)
   have hp0' : far wr w.heap.size 0 = _ := hp0
   have hp1' : far wr w.heap.size 1 = _ := hp1
   have HB := hid (vB_bad (good := ivOk) (lt := ivLt) (n := 6) hlt)
   have HL := hid hl
   clear hl h0
   cases k with
   | zero =>
    have HV := hid (vAt_zero (good := ivOk) (lt := ivLt) hlt)
    have hx0 := hcx 0 hlt 0 _ rfl
    have hx1 := hcx 0 hlt 1 _ rfl
    simp only [Nat.zero_mul, Nat.add_zero] at hx0 hx1
    clear hcx
    generalize xs[0] = x at *
    by_cases hg : ivOk x = true
    ·have HG := hid hg
     simp only [ivOk] at hg
     go_wp2_with (fail)
     refine wp_region_w (n := 19) [] [] (FS17_4 d wr x x bx ox 0 xs.length cap w) rfl (by kernel_rfl) (fun _ _ d _ _ h => by cases d <;> exact h) ?_ ?_ ?_ ?_ ?_ ?_
     ·intro iq
      match iq with
      | 0 | 1 | 2 | 3 | 4 | 5 | 6 | 7 | 8 | 9 | 10 | 11 | 12 | 13 | 14 | 15 | 16 | 17 | 18 => exact Stable.const _
      | n + 19 => exact Stable.const _
     ·intro iq hi
      exact absurd hi (by simp)
     ·intro iq hi
      exact absurd hi (by simp)
     ·intro iq o hi hl ho vals w1 hb1 hf
      exact absurd hl (by simp)
     ·intro iq o hi hl ho vals w1 hb1 hf
      match iq, hi with
      | 0, _ =>
       injection ho with ho
       subst ho
       clear hl
       simp only [fillA, List.take, List.drop, put_none, Act.put, List.setIfInBounds_toArray, List.set_cons_zero, List.set_cons_succ, Nat.reduceAdd]
       clear hf
       have hc1 := cellOf hb1
       have hf1 := frozOf hb1
       have hz1 := sizeOf hb1
       try simp at hz1
       go_wp2_with (fail)
       exact RQ.mk rfl ⟨(by first | rfl | (simp [FS17_4]; done) | (simp [FS17_4, *]; done) | (simp [FS17_4, gotV]; done) | (simp [FS17_4, gotV]; omega)), fun h => absurd h (by decide)⟩ (Below.refl _ _)
      | 1, _ =>
       injection ho with ho
       subst ho
       clear hl
       simp only [fillA, List.take, List.drop, put_none, Act.put, List.setIfInBounds_toArray, List.set_cons_zero, List.set_cons_succ, Nat.reduceAdd]
       have f0 := hf 0 (by decide) (by kernel_rfl)
       generalize vals 0 = v0 at *
       subst f0
       clear hf
       have hc1 := cellOf hb1
       have hf1 := frozOf hb1
       have hz1 := sizeOf hb1
       try simp at hz1
       go_wp2_with (first | (go_at_call 52; refine (c_impl_IsInterval _ _ _ ).mono ?_; rintro e w' ⟨rfl, hb⟩; have hc := cellOf hb; have hf := frozOf hb; have hz := sizeOf hb; try simp at hz))
       exact RQ.mk rfl ⟨(by first | rfl | (simp [FS17_4]; done) | (simp [FS17_4, *]; done) | (simp [FS17_4, gotV]; done) | (simp [FS17_4, gotV]; omega)), fun h => absurd h (by decide)⟩ (by (repeat' (first | exact Below.refl _ _ | assumption | refine Below.setCell ?_ ?_ _ | refine Below.drew ?_ | refine Below.alloc ?_ ?_ _ | refine Below.trans ?_ (Below.mono (by assumption) ?_) | (simp; done) | (simp; omega) | omega)))
      | 2, _ =>
       injection ho with ho
       subst ho
       clear hl
       simp only [fillA, List.take, List.drop, put_none, Act.put, List.setIfInBounds_toArray, List.set_cons_zero, List.set_cons_succ, Nat.reduceAdd]
       have f1 := hf 1 (by decide) (by kernel_rfl)
       generalize vals 1 = v1 at *
       subst f1
       clear hf
       go_wp2_with (fail)
       exact RQ.mk rfl ⟨(by first | rfl | (simp [FS17_4]; done) | (simp [FS17_4, *]; done) | (simp [FS17_4, gotV]; done) | (simp [FS17_4, gotV]; omega)), fun h => absurd h (by decide)⟩ (Below.refl _ _)
      | 3, _ =>
       injection ho with ho
       subst ho
       clear hl
       simp only [fillA, List.take, List.drop, put_none, Act.put, List.setIfInBounds_toArray, List.set_cons_zero, List.set_cons_succ, Nat.reduceAdd]
       have f2 := hf 2 (by decide) (by kernel_rfl)
       generalize vals 2 = v2 at *
       subst f2
       have f1 := hf 1 (by decide) (by kernel_rfl)
       generalize vals 1 = v1 at *
       subst f1
       clear hf
       go_wp2_with (fail)
       exact RQ.mk rfl ⟨(by first | rfl | (simp [FS17_4]; done) | (simp [FS17_4, *]; done) | (simp [FS17_4, gotV]; done) | (simp [FS17_4, gotV]; omega)), fun h => absurd h (by decide)⟩ (Below.refl _ _)
      | 4, _ =>
       injection ho with ho
       subst ho
       clear hl
       simp only [fillA, List.take, List.drop, put_none, Act.put, List.setIfInBounds_toArray, List.set_cons_zero, List.set_cons_succ, Nat.reduceAdd]
       have f3 := hf 3 (by decide) (by kernel_rfl)
       generalize vals 3 = v3 at *
       subst f3
       clear hf
       go_wp2_with (fail)
       exact RQ.mk rfl ⟨(by first | rfl | (simp [FS17_4]; done) | (simp [FS17_4, *]; done) | (simp [FS17_4, gotV]; done) | (simp [FS17_4, gotV]; omega)), fun h => absurd h (by decide)⟩ (Below.refl _ _)
      | 5, _ =>
       injection ho with ho
       subst ho
       clear hl
       simp only [fillA, List.take, List.drop, put_none, Act.put, List.setIfInBounds_toArray, List.set_cons_zero, List.set_cons_succ, Nat.reduceAdd]
       have f4 := hf 4 (by decide) (by kernel_rfl)
       generalize vals 4 = v4 at *
       subst f4
       have f3 := hf 3 (by decide) (by kernel_rfl)
       generalize vals 3 = v3 at *
       subst f3
       clear hf
       go_wp2_with (fail)
       exact RQ.mk rfl ⟨(by first | rfl | (simp [FS17_4]; done) | (simp [FS17_4, *]; done) | (simp [FS17_4, gotV]; done) | (simp [FS17_4, gotV]; omega)), fun h => absurd h (by decide)⟩ (Below.refl _ _)
      | 6, _ =>
       injection ho with ho
       subst ho
       clear hl
       simp only [fillA, List.take, List.drop, put_none, Act.put, List.setIfInBounds_toArray, List.set_cons_zero, List.set_cons_succ, Nat.reduceAdd]
       have f5 := hf 5 (by decide) (by kernel_rfl)
       generalize vals 5 = v5 at *
       subst f5
       have f3 := hf 3 (by decide) (by kernel_rfl)
       generalize vals 3 = v3 at *
       subst f3
       clear hf
       go_wp2_with (fail)
       exact RQ.mk rfl ⟨(by first | rfl | (simp [FS17_4]; done) | (simp [FS17_4, *]; done) | (simp [FS17_4, gotV]; done) | (simp [FS17_4, gotV]; omega)), fun h => absurd h (by decide)⟩ (Below.refl _ _)
      | 7, _ =>
       injection ho with ho
       subst ho
       clear hl
       simp only [fillA, List.take, List.drop, put_none, Act.put, List.setIfInBounds_toArray, List.set_cons_zero, List.set_cons_succ, Nat.reduceAdd]
       have f6 := hf 6 (by decide) (by kernel_rfl)
       generalize vals 6 = v6 at *
       subst f6
       clear hf
       go_wp2_with (fail)
       exact RQ.mk rfl ⟨(by first | rfl | (simp [FS17_4]; done) | (simp [FS17_4, *]; done) | (simp [FS17_4, gotV]; done) | (simp [FS17_4, gotV]; omega)), fun h => absurd h (by decide)⟩ (Below.refl _ _)
      | 8, _ =>
       injection ho with ho
       subst ho
       clear hl
       simp only [fillA, List.take, List.drop, put_none, Act.put, List.setIfInBounds_toArray, List.set_cons_zero, List.set_cons_succ, Nat.reduceAdd]
       have f7 := hf 7 (by decide) (by kernel_rfl)
       generalize vals 7 = v7 at *
       subst f7
       have f6 := hf 6 (by decide) (by kernel_rfl)
       generalize vals 6 = v6 at *
       subst f6
       clear hf
       go_wp2_with (fail)
       exact RQ.mk rfl ⟨(by first | rfl | (simp [FS17_4]; done) | (simp [FS17_4, *]; done) | (simp [FS17_4, gotV]; done) | (simp [FS17_4, gotV]; omega)), fun h => absurd h (by decide)⟩ (Below.refl _ _)
      | 9, _ =>
       injection ho with ho
       subst ho
       clear hl
       simp only [fillA, List.take, List.drop, put_none, Act.put, List.setIfInBounds_toArray, List.set_cons_zero, List.set_cons_succ, Nat.reduceAdd]
       have f6 := hf 6 (by decide) (by kernel_rfl)
       generalize vals 6 = v6 at *
       subst f6
       clear hf
       go_wp2_with (fail)
       exact RQ.mk rfl ⟨(by first | rfl | (simp [FS17_4]; done) | (simp [FS17_4, *]; done) | (simp [FS17_4, gotV]; done) | (simp [FS17_4, gotV]; omega)), fun h => absurd h (by decide)⟩ (Below.refl _ _)
      | 10, _ =>
       injection ho with ho
       subst ho
       clear hl
       simp only [fillA, List.take, List.drop, put_none, Act.put, List.setIfInBounds_toArray, List.set_cons_zero, List.set_cons_succ, Nat.reduceAdd]
       have f9 := hf 9 (by decide) (by kernel_rfl)
       generalize vals 9 = v9 at *
       subst f9
       have f6 := hf 6 (by decide) (by kernel_rfl)
       generalize vals 6 = v6 at *
       subst f6
       clear hf
       go_wp2_with (fail)
       exact RQ.mk rfl ⟨(by first | rfl | (simp [FS17_4]; done) | (simp [FS17_4, *]; done) | (simp [FS17_4, gotV]; done) | (simp [FS17_4, gotV]; omega)), fun h => absurd h (by decide)⟩ (Below.refl _ _)
      | 11, _ =>
       injection ho with ho
       subst ho
       clear hl
       simp only [fillA, List.take, List.drop, put_none, Act.put, List.setIfInBounds_toArray, List.set_cons_zero, List.set_cons_succ, Nat.reduceAdd]
       have f8 := hf 8 (by decide) (by kernel_rfl)
       generalize vals 8 = v8 at *
       subst f8
       have f10 := hf 10 (by decide) (by kernel_rfl)
       generalize vals 10 = v10 at *
       subst f10
       have f6 := hf 6 (by decide) (by kernel_rfl)
       generalize vals 6 = v6 at *
       subst f6
       clear hf
       go_wp2_with (fail)
       exact RQ.mk rfl ⟨(by first | rfl | (simp [FS17_4]; done) | (simp [FS17_4, *]; done) | (simp [FS17_4, gotV]; done) | (simp [FS17_4, gotV]; omega)), fun h => absurd h (by decide)⟩ (Below.refl _ _)
      | 12, _ =>
       injection ho with ho
       subst ho
       clear hl
       simp only [fillA, List.take, List.drop, put_none, Act.put, List.setIfInBounds_toArray, List.set_cons_zero, List.set_cons_succ, Nat.reduceAdd]
       have f11 := hf 11 (by decide) (by kernel_rfl)
       generalize vals 11 = v11 at *
       subst f11
       have f6 := hf 6 (by decide) (by kernel_rfl)
       generalize vals 6 = v6 at *
       subst f6
       clear hf
       go_wp2_with (fail)
       exact RQ.mk rfl ⟨(by first | rfl | (simp [FS17_4]; done) | (simp [FS17_4, *]; done) | (simp [FS17_4, gotV]; done) | (simp [FS17_4, gotV]; omega)), fun h => absurd h (by decide)⟩ (Below.refl _ _)
      | 13, _ =>
       injection ho with ho
       subst ho
       clear hl
       simp only [fillA, List.take, List.drop, put_none, Act.put, List.setIfInBounds_toArray, List.set_cons_zero, List.set_cons_succ, Nat.reduceAdd]
       have f12 := hf 12 (by decide) (by kernel_rfl)
       generalize vals 12 = v12 at *
       subst f12
       have f6 := hf 6 (by decide) (by kernel_rfl)
       generalize vals 6 = v6 at *
       subst f6
       clear hf
       go_wp2_with (fail)
       exact RQ.mk rfl ⟨(by first | rfl | (simp [FS17_4]; done) | (simp [FS17_4, *]; done) | (simp [FS17_4, gotV]; done) | (simp [FS17_4, gotV]; omega)), fun h => absurd h (by decide)⟩ (Below.refl _ _)
      | 14, _ =>
       injection ho with ho
       subst ho
       clear hl
       simp only [fillA, List.take, List.drop, put_none, Act.put, List.setIfInBounds_toArray, List.set_cons_zero, List.set_cons_succ, Nat.reduceAdd]
       have f6 := hf 6 (by decide) (by kernel_rfl)
       generalize vals 6 = v6 at *
       subst f6
       clear hf
       go_wp2_with (fail)
       exact RQ.mk rfl ⟨(by first | rfl | (simp [FS17_4]; done) | (simp [FS17_4, *]; done) | (simp [FS17_4, gotV]; done) | (simp [FS17_4, gotV]; omega)), fun h => absurd h (by decide)⟩ (Below.refl _ _)
      | 15, _ =>
       injection ho with ho
       subst ho
       clear hl
       simp only [fillA, List.take, List.drop, put_none, Act.put, List.setIfInBounds_toArray, List.set_cons_zero, List.set_cons_succ, Nat.reduceAdd]
       have f14 := hf 14 (by decide) (by kernel_rfl)
       generalize vals 14 = v14 at *
       subst f14
       have f6 := hf 6 (by decide) (by kernel_rfl)
       generalize vals 6 = v6 at *
       subst f6
       clear hf
       go_wp2_with (fail)
       exact RQ.mk rfl ⟨(by first | rfl | (simp [FS17_4]; done) | (simp [FS17_4, *]; done) | (simp [FS17_4, gotV]; done) | (simp [FS17_4, gotV]; omega)), fun h => absurd h (by decide)⟩ (Below.refl _ _)
      | 16, _ =>
       injection ho with ho
       subst ho
       clear hl
       simp only [fillA, List.take, List.drop, put_none, Act.put, List.setIfInBounds_toArray, List.set_cons_zero, List.set_cons_succ, Nat.reduceAdd]
       have f13 := hf 13 (by decide) (by kernel_rfl)
       generalize vals 13 = v13 at *
       subst f13
       have f15 := hf 15 (by decide) (by kernel_rfl)
       generalize vals 15 = v15 at *
       subst f15
       have f6 := hf 6 (by decide) (by kernel_rfl)
       generalize vals 6 = v6 at *
       subst f6
       clear hf
       go_wp2_with (fail)
       exact RQ.mk rfl ⟨(by first | rfl | (simp [FS17_4]; done) | (simp [FS17_4, *]; done) | (simp [FS17_4, gotV]; done) | (simp [FS17_4, gotV]; omega)), fun h => absurd h (by decide)⟩ (Below.refl _ _)
      | 17, _ =>
       injection ho with ho
       subst ho
       clear hl
       simp only [fillA, List.take, List.drop, put_none, Act.put, List.setIfInBounds_toArray, List.set_cons_zero, List.set_cons_succ, Nat.reduceAdd]
       have f6 := hf 6 (by decide) (by kernel_rfl)
       generalize vals 6 = v6 at *
       subst f6
       have f16 := hf 16 (by decide) (by kernel_rfl)
       generalize vals 16 = v16 at *
       subst f16
       have f3 := hf 3 (by decide) (by kernel_rfl)
       generalize vals 3 = v3 at *
       subst f3
       clear hf
       go_wp2_with (fail)
       exact RQ.mk rfl ⟨(by first | rfl | (simp [FS17_4]; done) | (simp [FS17_4, *]; done) | (simp [FS17_4, gotV]; done) | (simp [FS17_4, gotV]; omega)), fun h => absurd h (by decide)⟩ (Below.refl _ _)
      | 18, _ =>
       injection ho with ho
       subst ho
       clear hl
       simp only [fillA, List.take, List.drop, put_none, Act.put, List.setIfInBounds_toArray, List.set_cons_zero, List.set_cons_succ, Nat.reduceAdd]
       have f3 := hf 3 (by decide) (by kernel_rfl)
       generalize vals 3 = v3 at *
       subst f3
       have f17 := hf 17 (by decide) (by kernel_rfl)
       generalize vals 17 = v17 at *
       subst f17
       clear hf
       go_wp2_with (fail)
       exact RQ.mk rfl ⟨(by first | rfl | (simp [FS17_4]; done) | (simp [FS17_4, *]; done) | (simp [FS17_4, gotV]; done) | (simp [FS17_4, gotV]; omega)), fun h => absurd h (by decide)⟩ (Below.refl _ _)
      | m + 19, h => exact absurd h (by omega)
     ·intro vals w1 hb1 hf hd
      simp only [fillA, List.take, List.drop, put_none, Act.put, List.setIfInBounds_toArray, List.set_cons_zero, List.set_cons_succ, Nat.reduceAdd]
      clear hd
      have f0 := hf 0 (by decide)
      generalize vals 0 = v0 at *
      subst f0
      have f1 := hf 1 (by decide)
      generalize vals 1 = v1 at *
      subst f1
      have f2 := hf 2 (by decide)
      generalize vals 2 = v2 at *
      subst f2
      have f3 := hf 3 (by decide)
      generalize vals 3 = v3 at *
      subst f3
      have f4 := hf 4 (by decide)
      generalize vals 4 = v4 at *
      subst f4
      have f5 := hf 5 (by decide)
      generalize vals 5 = v5 at *
      subst f5
      have f6 := hf 6 (by decide)
      generalize vals 6 = v6 at *
      subst f6
      have f7 := hf 7 (by decide)
      generalize vals 7 = v7 at *
      subst f7
      have f8 := hf 8 (by decide)
      generalize vals 8 = v8 at *
      subst f8
      have f9 := hf 9 (by decide)
      generalize vals 9 = v9 at *
      subst f9
      have f10 := hf 10 (by decide)
      generalize vals 10 = v10 at *
      subst f10
      have f11 := hf 11 (by decide)
      generalize vals 11 = v11 at *
      subst f11
      have f12 := hf 12 (by decide)
      generalize vals 12 = v12 at *
      subst f12
      have f13 := hf 13 (by decide)
      generalize vals 13 = v13 at *
      subst f13
      have f14 := hf 14 (by decide)
      generalize vals 14 = v14 at *
      subst f14
      have f15 := hf 15 (by decide)
      generalize vals 15 = v15 at *
      subst f15
      have f16 := hf 16 (by decide)
      generalize vals 16 = v16 at *
      subst f16
      have f17 := hf 17 (by decide)
      generalize vals 17 = v17 at *
      subst f17
      have f18 := hf 18 (by decide)
      generalize vals 18 = v18 at *
      subst f18
      clear hf
      have hc1 := cellOf hb1
      have hf1 := frozOf hb1
      have hz1 := sizeOf hb1
      try simp at hz1
      go_wp2_with (fail)
      go_roundw
      case rel =>
       refine ⟨1, by omega, by go_num, fun j hj => ?_, ?_, ?_, ?_, by (repeat' (first | exact Below.refl _ _ | assumption | refine Below.setCell ?_ ?_ _ | refine Below.drew ?_ | refine Below.alloc ?_ ?_ _ | refine Below.trans ?_ (Below.mono (by assumption) ?_) | (simp; done) | (simp; omega) | omega))⟩
       ·obtain rfl : j = 0 := by omega
        rw [HV.out, HG.out]
       all_goals first | (simp [go_sem, ↓IntWalk.iteOmega, *]; done) | (simp [go_sem, ↓IntWalk.iteOmega, *]; omega) | omega
      case measure => simp [intOf]; omega
    ·have HG : Hid (ivOk x = false) := by show _ = _; simpa using hg
     clear hg
     have hg := HG.out
     simp only [ivOk] at hg
     go_wp2_with (fail)
     refine wp_region_w (n := 19) [] [] (FS17_4_2 d wr x x bx ox 0 xs.length cap w) rfl (by kernel_rfl) (fun _ _ d _ _ h => by cases d <;> exact h) ?_ ?_ ?_ ?_ ?_ ?_
     ·intro iq
      match iq with
      | 0 | 1 | 2 | 3 | 4 | 5 | 6 | 7 | 8 | 9 | 10 | 11 | 12 | 13 | 14 | 15 | 16 | 17 | 18 => exact Stable.const _
      | n + 19 => exact Stable.const _
     ·intro iq hi
      exact absurd hi (by simp)
     ·intro iq hi
      exact absurd hi (by simp)
     ·intro iq o hi hl ho vals w1 hb1 hf
      exact absurd hl (by simp)
     ·intro iq o hi hl ho vals w1 hb1 hf
      match iq, hi with
      | 0, _ =>
       injection ho with ho
       subst ho
       clear hl
       simp only [fillA, List.take, List.drop, put_none, Act.put, List.setIfInBounds_toArray, List.set_cons_zero, List.set_cons_succ, Nat.reduceAdd]
       clear hf
       have hc1 := cellOf hb1
       have hf1 := frozOf hb1
       have hz1 := sizeOf hb1
       try simp at hz1
       go_wp2_with (fail)
       exact RQ.mk rfl ⟨(by first | rfl | (simp [FS17_4_2]; done) | (simp [FS17_4_2, *]; done) | (simp [FS17_4_2, gotV]; done) | (simp [FS17_4_2, gotV]; omega)), fun h => absurd h (by decide)⟩ (Below.refl _ _)
      | 1, _ =>
       injection ho with ho
       subst ho
       clear hl
       simp only [fillA, List.take, List.drop, put_none, Act.put, List.setIfInBounds_toArray, List.set_cons_zero, List.set_cons_succ, Nat.reduceAdd]
       have f0 := hf 0 (by decide) (by kernel_rfl)
       generalize vals 0 = v0 at *
       subst f0
       clear hf
       have hc1 := cellOf hb1
       have hf1 := frozOf hb1
       have hz1 := sizeOf hb1
       try simp at hz1
       go_wp2_with (first | (go_at_call 52; refine (c_impl_IsInterval _ _ _ ).mono ?_; rintro e w' ⟨rfl, hb⟩; have hc := cellOf hb; have hf := frozOf hb; have hz := sizeOf hb; try simp at hz))
       exact RQ.mk rfl ⟨(by first | rfl | (simp [FS17_4_2]; done) | (simp [FS17_4_2, *]; done) | (simp [FS17_4_2, gotV]; done) | (simp [FS17_4_2, gotV]; omega)), fun h => absurd h (by decide)⟩ (by (repeat' (first | exact Below.refl _ _ | assumption | refine Below.setCell ?_ ?_ _ | refine Below.drew ?_ | refine Below.alloc ?_ ?_ _ | refine Below.trans ?_ (Below.mono (by assumption) ?_) | (simp; done) | (simp; omega) | omega)))
      | 2, _ =>
       injection ho with ho
       subst ho
       clear hl
       simp only [fillA, List.take, List.drop, put_none, Act.put, List.setIfInBounds_toArray, List.set_cons_zero, List.set_cons_succ, Nat.reduceAdd]
       have f1 := hf 1 (by decide) (by kernel_rfl)
       generalize vals 1 = v1 at *
       subst f1
       clear hf
       go_wp2_with (fail)
       exact RQ.mk rfl ⟨(by first | rfl | (simp [FS17_4_2]; done) | (simp [FS17_4_2, *]; done) | (simp [FS17_4_2, gotV]; done) | (simp [FS17_4_2, gotV]; omega)), fun h => absurd h (by decide)⟩ (Below.refl _ _)
      | 3, _ =>
       injection ho with ho
       subst ho
       clear hl
       simp only [fillA, List.take, List.drop, put_none, Act.put, List.setIfInBounds_toArray, List.set_cons_zero, List.set_cons_succ, Nat.reduceAdd]
       have f2 := hf 2 (by decide) (by kernel_rfl)
       generalize vals 2 = v2 at *
       subst f2
       have f1 := hf 1 (by decide) (by kernel_rfl)
       generalize vals 1 = v1 at *
       subst f1
       clear hf
       go_wp2_with (fail)
       exact RQ.mk rfl ⟨(by first | rfl | (simp [FS17_4_2]; done) | (simp [FS17_4_2, *]; done) | (simp [FS17_4_2, gotV]; done) | (simp [FS17_4_2, gotV]; omega)), fun h => absurd h (by decide)⟩ (Below.refl _ _)
      | 4, _ =>
       injection ho with ho
       subst ho
       clear hl
       simp only [fillA, List.take, List.drop, put_none, Act.put, List.setIfInBounds_toArray, List.set_cons_zero, List.set_cons_succ, Nat.reduceAdd]
       have f3 := hf 3 (by decide) (by kernel_rfl)
       generalize vals 3 = v3 at *
       subst f3
       clear hf
       go_wp2_with (fail)
       exact RQ.mk rfl ⟨(by first | rfl | (simp [FS17_4_2]; done) | (simp [FS17_4_2, *]; done) | (simp [FS17_4_2, gotV]; done) | (simp [FS17_4_2, gotV]; omega)), fun h => absurd h (by decide)⟩ (Below.refl _ _)
      | 5, _ =>
       injection ho with ho
       subst ho
       clear hl
       simp only [fillA, List.take, List.drop, put_none, Act.put, List.setIfInBounds_toArray, List.set_cons_zero, List.set_cons_succ, Nat.reduceAdd]
       have f4 := hf 4 (by decide) (by kernel_rfl)
       generalize vals 4 = v4 at *
       subst f4
       have f3 := hf 3 (by decide) (by kernel_rfl)
       generalize vals 3 = v3 at *
       subst f3
       clear hf
       go_wp2_with (fail)
       exact RQ.mk rfl ⟨(by first | rfl | (simp [FS17_4_2]; done) | (simp [FS17_4_2, *]; done) | (simp [FS17_4_2, gotV]; done) | (simp [FS17_4_2, gotV]; omega)), fun h => absurd h (by decide)⟩ (Below.refl _ _)
      | 6, _ =>
       injection ho with ho
       subst ho
       clear hl
       simp only [fillA, List.take, List.drop, put_none, Act.put, List.setIfInBounds_toArray, List.set_cons_zero, List.set_cons_succ, Nat.reduceAdd]
       have f5 := hf 5 (by decide) (by kernel_rfl)
       generalize vals 5 = v5 at *
       subst f5
       have f3 := hf 3 (by decide) (by kernel_rfl)
       generalize vals 3 = v3 at *
       subst f3
       clear hf
       go_wp2_with (fail)
       exact RQ.mk rfl ⟨(by first | rfl | (simp [FS17_4_2]; done) | (simp [FS17_4_2, *]; done) | (simp [FS17_4_2, gotV]; done) | (simp [FS17_4_2, gotV]; omega)), fun h => absurd h (by decide)⟩ (Below.refl _ _)
      | 7, _ =>
       injection ho with ho
       subst ho
       clear hl
       simp only [fillA, List.take, List.drop, put_none, Act.put, List.setIfInBounds_toArray, List.set_cons_zero, List.set_cons_succ, Nat.reduceAdd]
       have f6 := hf 6 (by decide) (by kernel_rfl)
       generalize vals 6 = v6 at *
       subst f6
       clear hf
       go_wp2_with (fail)
       exact RQ.mk rfl ⟨(by first | rfl | (simp [FS17_4_2]; done) | (simp [FS17_4_2, *]; done) | (simp [FS17_4_2, gotV]; done) | (simp [FS17_4_2, gotV]; omega)), fun h => absurd h (by decide)⟩ (Below.refl _ _)
      | 8, _ =>
       injection ho with ho
       subst ho
       clear hl
       simp only [fillA, List.take, List.drop, put_none, Act.put, List.setIfInBounds_toArray, List.set_cons_zero, List.set_cons_succ, Nat.reduceAdd]
       have f7 := hf 7 (by decide) (by kernel_rfl)
       generalize vals 7 = v7 at *
       subst f7
       have f6 := hf 6 (by decide) (by kernel_rfl)
       generalize vals 6 = v6 at *
       subst f6
       clear hf
       go_wp2_with (fail)
       exact RQ.mk rfl ⟨(by first | rfl | (simp [FS17_4_2]; done) | (simp [FS17_4_2, *]; done) | (simp [FS17_4_2, gotV]; done) | (simp [FS17_4_2, gotV]; omega)), fun h => absurd h (by decide)⟩ (Below.refl _ _)
      | 9, _ =>
       injection ho with ho
       subst ho
       clear hl
       simp only [fillA, List.take, List.drop, put_none, Act.put, List.setIfInBounds_toArray, List.set_cons_zero, List.set_cons_succ, Nat.reduceAdd]
       have f6 := hf 6 (by decide) (by kernel_rfl)
       generalize vals 6 = v6 at *
       subst f6
       clear hf
       go_wp2_with (fail)
       exact RQ.mk rfl ⟨(by first | rfl | (simp [FS17_4_2]; done) | (simp [FS17_4_2, *]; done) | (simp [FS17_4_2, gotV]; done) | (simp [FS17_4_2, gotV]; omega)), fun h => absurd h (by decide)⟩ (Below.refl _ _)
      | 10, _ =>
       injection ho with ho
       subst ho
       clear hl
       simp only [fillA, List.take, List.drop, put_none, Act.put, List.setIfInBounds_toArray, List.set_cons_zero, List.set_cons_succ, Nat.reduceAdd]
       have f9 := hf 9 (by decide) (by kernel_rfl)
       generalize vals 9 = v9 at *
       subst f9
       have f6 := hf 6 (by decide) (by kernel_rfl)
       generalize vals 6 = v6 at *
       subst f6
       clear hf
       go_wp2_with (fail)
       exact RQ.mk rfl ⟨(by first | rfl | (simp [FS17_4_2]; done) | (simp [FS17_4_2, *]; done) | (simp [FS17_4_2, gotV]; done) | (simp [FS17_4_2, gotV]; omega)), fun h => absurd h (by decide)⟩ (Below.refl _ _)
      | 11, _ =>
       injection ho with ho
       subst ho
       clear hl
       simp only [fillA, List.take, List.drop, put_none, Act.put, List.setIfInBounds_toArray, List.set_cons_zero, List.set_cons_succ, Nat.reduceAdd]
       have f8 := hf 8 (by decide) (by kernel_rfl)
       generalize vals 8 = v8 at *
       subst f8
       have f10 := hf 10 (by decide) (by kernel_rfl)
       generalize vals 10 = v10 at *
       subst f10
       have f6 := hf 6 (by decide) (by kernel_rfl)
       generalize vals 6 = v6 at *
       subst f6
       clear hf
       go_wp2_with (fail)
       exact RQ.mk rfl ⟨(by first | rfl | (simp [FS17_4_2]; done) | (simp [FS17_4_2, *]; done) | (simp [FS17_4_2, gotV]; done) | (simp [FS17_4_2, gotV]; omega)), fun h => absurd h (by decide)⟩ (Below.refl _ _)
      | 12, _ =>
       injection ho with ho
       subst ho
       clear hl
       simp only [fillA, List.take, List.drop, put_none, Act.put, List.setIfInBounds_toArray, List.set_cons_zero, List.set_cons_succ, Nat.reduceAdd]
       have f11 := hf 11 (by decide) (by kernel_rfl)
       generalize vals 11 = v11 at *
       subst f11
       have f6 := hf 6 (by decide) (by kernel_rfl)
       generalize vals 6 = v6 at *
       subst f6
       clear hf
       go_wp2_with (fail)
       exact RQ.mk rfl ⟨(by first | rfl | (simp [FS17_4_2]; done) | (simp [FS17_4_2, *]; done) | (simp [FS17_4_2, gotV]; done) | (simp [FS17_4_2, gotV]; omega)), fun h => absurd h (by decide)⟩ (Below.refl _ _)
      | 13, _ =>
       injection ho with ho
       subst ho
       clear hl
       simp only [fillA, List.take, List.drop, put_none, Act.put, List.setIfInBounds_toArray, List.set_cons_zero, List.set_cons_succ, Nat.reduceAdd]
       have f12 := hf 12 (by decide) (by kernel_rfl)
       generalize vals 12 = v12 at *
       subst f12
       have f6 := hf 6 (by decide) (by kernel_rfl)
       generalize vals 6 = v6 at *
       subst f6
       clear hf
       go_wp2_with (fail)
       exact RQ.mk rfl ⟨(by first | rfl | (simp [FS17_4_2]; done) | (simp [FS17_4_2, *]; done) | (simp [FS17_4_2, gotV]; done) | (simp [FS17_4_2, gotV]; omega)), fun h => absurd h (by decide)⟩ (Below.refl _ _)
      | 14, _ =>
       injection ho with ho
       subst ho
       clear hl
       simp only [fillA, List.take, List.drop, put_none, Act.put, List.setIfInBounds_toArray, List.set_cons_zero, List.set_cons_succ, Nat.reduceAdd]
       have f6 := hf 6 (by decide) (by kernel_rfl)
       generalize vals 6 = v6 at *
       subst f6
       clear hf
       go_wp2_with (fail)
       exact RQ.mk rfl ⟨(by first | rfl | (simp [FS17_4_2]; done) | (simp [FS17_4_2, *]; done) | (simp [FS17_4_2, gotV]; done) | (simp [FS17_4_2, gotV]; omega)), fun h => absurd h (by decide)⟩ (Below.refl _ _)
      | 15, _ =>
       injection ho with ho
       subst ho
       clear hl
       simp only [fillA, List.take, List.drop, put_none, Act.put, List.setIfInBounds_toArray, List.set_cons_zero, List.set_cons_succ, Nat.reduceAdd]
       have f14 := hf 14 (by decide) (by kernel_rfl)
       generalize vals 14 = v14 at *
       subst f14
       have f6 := hf 6 (by decide) (by kernel_rfl)
       generalize vals 6 = v6 at *
       subst f6
       clear hf
       go_wp2_with (fail)
       exact RQ.mk rfl ⟨(by first | rfl | (simp [FS17_4_2]; done) | (simp [FS17_4_2, *]; done) | (simp [FS17_4_2, gotV]; done) | (simp [FS17_4_2, gotV]; omega)), fun h => absurd h (by decide)⟩ (Below.refl _ _)
      | 16, _ =>
       injection ho with ho
       subst ho
       clear hl
       simp only [fillA, List.take, List.drop, put_none, Act.put, List.setIfInBounds_toArray, List.set_cons_zero, List.set_cons_succ, Nat.reduceAdd]
       have f13 := hf 13 (by decide) (by kernel_rfl)
       generalize vals 13 = v13 at *
       subst f13
       have f15 := hf 15 (by decide) (by kernel_rfl)
       generalize vals 15 = v15 at *
       subst f15
       have f6 := hf 6 (by decide) (by kernel_rfl)
       generalize vals 6 = v6 at *
       subst f6
       clear hf
       go_wp2_with (fail)
       exact RQ.mk rfl ⟨(by first | rfl | (simp [FS17_4_2]; done) | (simp [FS17_4_2, *]; done) | (simp [FS17_4_2, gotV]; done) | (simp [FS17_4_2, gotV]; omega)), fun h => absurd h (by decide)⟩ (Below.refl _ _)
      | 17, _ =>
       injection ho with ho
       subst ho
       clear hl
       simp only [fillA, List.take, List.drop, put_none, Act.put, List.setIfInBounds_toArray, List.set_cons_zero, List.set_cons_succ, Nat.reduceAdd]
       have f6 := hf 6 (by decide) (by kernel_rfl)
       generalize vals 6 = v6 at *
       subst f6
       have f16 := hf 16 (by decide) (by kernel_rfl)
       generalize vals 16 = v16 at *
       subst f16
       have f3 := hf 3 (by decide) (by kernel_rfl)
       generalize vals 3 = v3 at *
       subst f3
       clear hf
       go_wp2_with (fail)
       exact RQ.mk rfl ⟨(by first | rfl | (simp [FS17_4_2]; done) | (simp [FS17_4_2, *]; done) | (simp [FS17_4_2, gotV]; done) | (simp [FS17_4_2, gotV]; omega)), fun h => absurd h (by decide)⟩ (Below.refl _ _)
      | 18, _ =>
       injection ho with ho
       subst ho
       clear hl
       simp only [fillA, List.take, List.drop, put_none, Act.put, List.setIfInBounds_toArray, List.set_cons_zero, List.set_cons_succ, Nat.reduceAdd]
       have f3 := hf 3 (by decide) (by kernel_rfl)
       generalize vals 3 = v3 at *
       subst f3
       have f17 := hf 17 (by decide) (by kernel_rfl)
       generalize vals 17 = v17 at *
       subst f17
       clear hf
       go_wp2_with (fail)
       exact RQ.mk rfl ⟨(by first | rfl | (simp [FS17_4_2]; done) | (simp [FS17_4_2, *]; done) | (simp [FS17_4_2, gotV]; done) | (simp [FS17_4_2, gotV]; omega)), fun h => absurd h (by decide)⟩ (Below.refl _ _)
      | m + 19, h => exact absurd h (by omega)
     ·intro vals w1 hb1 hf hd
      simp only [fillA, List.take, List.drop, put_none, Act.put, List.setIfInBounds_toArray, List.set_cons_zero, List.set_cons_succ, Nat.reduceAdd]
      clear hd
      have f0 := hf 0 (by decide)
      generalize vals 0 = v0 at *
      subst f0
      have f1 := hf 1 (by decide)
      generalize vals 1 = v1 at *
      subst f1
      have f2 := hf 2 (by decide)
      generalize vals 2 = v2 at *
      subst f2
      have f3 := hf 3 (by decide)
      generalize vals 3 = v3 at *
      subst f3
      have f4 := hf 4 (by decide)
      generalize vals 4 = v4 at *
      subst f4
      have f5 := hf 5 (by decide)
      generalize vals 5 = v5 at *
      subst f5
      have f6 := hf 6 (by decide)
      generalize vals 6 = v6 at *
      subst f6
      have f7 := hf 7 (by decide)
      generalize vals 7 = v7 at *
      subst f7
      have f8 := hf 8 (by decide)
      generalize vals 8 = v8 at *
      subst f8
      have f9 := hf 9 (by decide)
      generalize vals 9 = v9 at *
      subst f9
      have f10 := hf 10 (by decide)
      generalize vals 10 = v10 at *
      subst f10
      have f11 := hf 11 (by decide)
      generalize vals 11 = v11 at *
      subst f11
      have f12 := hf 12 (by decide)
      generalize vals 12 = v12 at *
      subst f12
      have f13 := hf 13 (by decide)
      generalize vals 13 = v13 at *
      subst f13
      have f14 := hf 14 (by decide)
      generalize vals 14 = v14 at *
      subst f14
      have f15 := hf 15 (by decide)
      generalize vals 15 = v15 at *
      subst f15
      have f16 := hf 16 (by decide)
      generalize vals 16 = v16 at *
      subst f16
      have f17 := hf 17 (by decide)
      generalize vals 17 = v17 at *
      subst f17
      have f18 := hf 18 (by decide)
      generalize vals 18 = v18 at *
      subst f18
      clear hf
      have hc1 := cellOf hb1
      have hf1 := frozOf hb1
      have hz1 := sizeOf hb1
      try simp at hz1
      go_wp2_with (fail)
      go_ret
      exact ⟨ret_bool (by rw [brB, HB.out (by rw [HV.out, HG.out])]; simp), by (repeat' (first | exact Below.refl _ _ | assumption | refine Below.setCell ?_ ?_ _ | refine Below.drew ?_ | refine Below.alloc ?_ ?_ _ | refine Below.trans ?_ (Below.mono (by assumption) ?_) | (simp; done) | (simp; omega) | omega))⟩
   | succ k =>
    have HV := hid (vAt_succ (good := ivOk) (lt := ivLt) k hlt)
    have hlt' : k < xs.length := by omega
    have hx0 := hcx (k + 1) hlt 0 _ rfl
    have hx1 := hcx (k + 1) hlt 1 _ rfl
    have hy1 := hcx k hlt' 1 _ rfl
    simp only [Nat.add_zero] at hx0
    clear hcx
    generalize xs[k + 1] = x at *
    generalize xs[k] = y at *
    by_cases hg : ivOk x = true
    rotate_left
    ·have HG : Hid (ivOk x = false) := by show _ = _; simpa using hg
     clear hg
     have hg := HG.out
     simp only [ivOk] at hg
     go_wp2_with (fail)
     refine wp_region_w (n := 19) [] [] (FS17_4_3 d wr x y bx ox k xs.length cap w) rfl (by kernel_rfl) (fun _ _ d _ _ h => by cases d <;> exact h) ?_ ?_ ?_ ?_ ?_ ?_
     ·intro iq
      match iq with
      | 0 | 1 | 2 | 3 | 4 | 5 | 6 | 7 | 8 | 9 | 10 | 11 | 12 | 13 | 14 | 15 | 16 | 17 | 18 => exact Stable.const _
      | n + 19 => exact Stable.const _
     ·intro iq hi
      exact absurd hi (by simp)
     ·intro iq hi
      exact absurd hi (by simp)
     ·intro iq o hi hl ho vals w1 hb1 hf
      exact absurd hl (by simp)
     ·intro iq o hi hl ho vals w1 hb1 hf
      match iq, hi with
      | 0, _ =>
       injection ho with ho
       subst ho
       clear hl
       simp only [fillA, List.take, List.drop, put_none, Act.put, List.setIfInBounds_toArray, List.set_cons_zero, List.set_cons_succ, Nat.reduceAdd]
       clear hf
       have hc1 := cellOf hb1
       have hf1 := frozOf hb1
       have hz1 := sizeOf hb1
       try simp at hz1
       go_wp2_with (fail)
       exact RQ.mk rfl ⟨(by first | rfl | (simp [FS17_4_3]; done) | (simp [FS17_4_3, *]; done) | (simp [FS17_4_3, gotV]; done) | (simp [FS17_4_3, gotV]; omega)), fun h => absurd h (by decide)⟩ (Below.refl _ _)
      | 1, _ =>
       injection ho with ho
       subst ho
       clear hl
       simp only [fillA, List.take, List.drop, put_none, Act.put, List.setIfInBounds_toArray, List.set_cons_zero, List.set_cons_succ, Nat.reduceAdd]
       have f0 := hf 0 (by decide) (by kernel_rfl)
       generalize vals 0 = v0 at *
       subst f0
       clear hf
       have hc1 := cellOf hb1
       have hf1 := frozOf hb1
       have hz1 := sizeOf hb1
       try simp at hz1
       go_wp2_with (first | (go_at_call 52; refine (c_impl_IsInterval _ _ _ ).mono ?_; rintro e w' ⟨rfl, hb⟩; have hc := cellOf hb; have hf := frozOf hb; have hz := sizeOf hb; try simp at hz))
       exact RQ.mk rfl ⟨(by first | rfl | (simp [FS17_4_3]; done) | (simp [FS17_4_3, *]; done) | (simp [FS17_4_3, gotV]; done) | (simp [FS17_4_3, gotV]; omega)), fun h => absurd h (by decide)⟩ (by (repeat' (first | exact Below.refl _ _ | assumption | refine Below.setCell ?_ ?_ _ | refine Below.drew ?_ | refine Below.alloc ?_ ?_ _ | refine Below.trans ?_ (Below.mono (by assumption) ?_) | (simp; done) | (simp; omega) | omega)))
      | 2, _ =>
       injection ho with ho
       subst ho
       clear hl
       simp only [fillA, List.take, List.drop, put_none, Act.put, List.setIfInBounds_toArray, List.set_cons_zero, List.set_cons_succ, Nat.reduceAdd]
       have f1 := hf 1 (by decide) (by kernel_rfl)
       generalize vals 1 = v1 at *
       subst f1
       clear hf
       go_wp2_with (fail)
       exact RQ.mk rfl ⟨(by first | rfl | (simp [FS17_4_3]; done) | (simp [FS17_4_3, *]; done) | (simp [FS17_4_3, gotV]; done) | (simp [FS17_4_3, gotV]; omega)), fun h => absurd h (by decide)⟩ (Below.refl _ _)
      | 3, _ =>
       injection ho with ho
       subst ho
       clear hl
       simp only [fillA, List.take, List.drop, put_none, Act.put, List.setIfInBounds_toArray, List.set_cons_zero, List.set_cons_succ, Nat.reduceAdd]
       have f2 := hf 2 (by decide) (by kernel_rfl)
       generalize vals 2 = v2 at *
       subst f2
       have f1 := hf 1 (by decide) (by kernel_rfl)
       generalize vals 1 = v1 at *
       subst f1
       clear hf
       go_wp2_with (fail)
       exact RQ.mk rfl ⟨(by first | rfl | (simp [FS17_4_3]; done) | (simp [FS17_4_3, *]; done) | (simp [FS17_4_3, gotV]; done) | (simp [FS17_4_3, gotV]; omega)), fun h => absurd h (by decide)⟩ (Below.refl _ _)
      | 4, _ =>
       injection ho with ho
       subst ho
       clear hl
       simp only [fillA, List.take, List.drop, put_none, Act.put, List.setIfInBounds_toArray, List.set_cons_zero, List.set_cons_succ, Nat.reduceAdd]
       have f3 := hf 3 (by decide) (by kernel_rfl)
       generalize vals 3 = v3 at *
       subst f3
       clear hf
       go_wp2_with (fail)
       exact RQ.mk rfl ⟨(by first | rfl | (simp [FS17_4_3]; done) | (simp [FS17_4_3, *]; done) | (simp [FS17_4_3, gotV]; done) | (simp [FS17_4_3, gotV]; omega)), fun h => absurd h (by decide)⟩ (Below.refl _ _)
      | 5, _ =>
       injection ho with ho
       subst ho
       clear hl
       simp only [fillA, List.take, List.drop, put_none, Act.put, List.setIfInBounds_toArray, List.set_cons_zero, List.set_cons_succ, Nat.reduceAdd]
       have f4 := hf 4 (by decide) (by kernel_rfl)
       generalize vals 4 = v4 at *
       subst f4
       have f3 := hf 3 (by decide) (by kernel_rfl)
       generalize vals 3 = v3 at *
       subst f3
       clear hf
       go_wp2_with (fail)
       exact RQ.mk rfl ⟨(by first | rfl | (simp [FS17_4_3]; done) | (simp [FS17_4_3, *]; done) | (simp [FS17_4_3, gotV]; done) | (simp [FS17_4_3, gotV]; omega)), fun h => absurd h (by decide)⟩ (Below.refl _ _)
      | 6, _ =>
       injection ho with ho
       subst ho
       clear hl
       simp only [fillA, List.take, List.drop, put_none, Act.put, List.setIfInBounds_toArray, List.set_cons_zero, List.set_cons_succ, Nat.reduceAdd]
       have f5 := hf 5 (by decide) (by kernel_rfl)
       generalize vals 5 = v5 at *
       subst f5
       have f3 := hf 3 (by decide) (by kernel_rfl)
       generalize vals 3 = v3 at *
       subst f3
       clear hf
       go_wp2_with (fail)
       exact RQ.mk rfl ⟨(by first | rfl | (simp [FS17_4_3]; done) | (simp [FS17_4_3, *]; done) | (simp [FS17_4_3, gotV]; done) | (simp [FS17_4_3, gotV]; omega)), fun h => absurd h (by decide)⟩ (Below.refl _ _)
      | 7, _ =>
       injection ho with ho
       subst ho
       clear hl
       simp only [fillA, List.take, List.drop, put_none, Act.put, List.setIfInBounds_toArray, List.set_cons_zero, List.set_cons_succ, Nat.reduceAdd]
       have f6 := hf 6 (by decide) (by kernel_rfl)
       generalize vals 6 = v6 at *
       subst f6
       clear hf
       go_wp2_with (fail)
       exact RQ.mk rfl ⟨(by first | rfl | (simp [FS17_4_3]; done) | (simp [FS17_4_3, *]; done) | (simp [FS17_4_3, gotV]; done) | (simp [FS17_4_3, gotV]; omega)), fun h => absurd h (by decide)⟩ (Below.refl _ _)
      | 8, _ =>
       injection ho with ho
       subst ho
       clear hl
       simp only [fillA, List.take, List.drop, put_none, Act.put, List.setIfInBounds_toArray, List.set_cons_zero, List.set_cons_succ, Nat.reduceAdd]
       have f7 := hf 7 (by decide) (by kernel_rfl)
       generalize vals 7 = v7 at *
       subst f7
       have f6 := hf 6 (by decide) (by kernel_rfl)
       generalize vals 6 = v6 at *
       subst f6
       clear hf
       go_wp2_with (fail)
       exact RQ.mk rfl ⟨(by first | rfl | (simp [FS17_4_3]; done) | (simp [FS17_4_3, *]; done) | (simp [FS17_4_3, gotV]; done) | (simp [FS17_4_3, gotV]; omega)), fun h => absurd h (by decide)⟩ (Below.refl _ _)
      | 9, _ =>
       injection ho with ho
       subst ho
       clear hl
       simp only [fillA, List.take, List.drop, put_none, Act.put, List.setIfInBounds_toArray, List.set_cons_zero, List.set_cons_succ, Nat.reduceAdd]
       have f6 := hf 6 (by decide) (by kernel_rfl)
       generalize vals 6 = v6 at *
       subst f6
       clear hf
       go_wp2_with (fail)
       exact RQ.mk rfl ⟨(by first | rfl | (simp [FS17_4_3]; done) | (simp [FS17_4_3, *]; done) | (simp [FS17_4_3, gotV]; done) | (simp [FS17_4_3, gotV]; omega)), fun h => absurd h (by decide)⟩ (Below.refl _ _)
      | 10, _ =>
       injection ho with ho
       subst ho
       clear hl
       simp only [fillA, List.take, List.drop, put_none, Act.put, List.setIfInBounds_toArray, List.set_cons_zero, List.set_cons_succ, Nat.reduceAdd]
       have f9 := hf 9 (by decide) (by kernel_rfl)
       generalize vals 9 = v9 at *
       subst f9
       have f6 := hf 6 (by decide) (by kernel_rfl)
       generalize vals 6 = v6 at *
       subst f6
       clear hf
       go_wp2_with (fail)
       exact RQ.mk rfl ⟨(by first | rfl | (simp [FS17_4_3]; done) | (simp [FS17_4_3, *]; done) | (simp [FS17_4_3, gotV]; done) | (simp [FS17_4_3, gotV]; omega)), fun h => absurd h (by decide)⟩ (Below.refl _ _)
      | 11, _ =>
       injection ho with ho
       subst ho
       clear hl
       simp only [fillA, List.take, List.drop, put_none, Act.put, List.setIfInBounds_toArray, List.set_cons_zero, List.set_cons_succ, Nat.reduceAdd]
       have f8 := hf 8 (by decide) (by kernel_rfl)
       generalize vals 8 = v8 at *
       subst f8
       have f10 := hf 10 (by decide) (by kernel_rfl)
       generalize vals 10 = v10 at *
       subst f10
       have f6 := hf 6 (by decide) (by kernel_rfl)
       generalize vals 6 = v6 at *
       subst f6
       clear hf
       go_wp2_with (fail)
       exact RQ.mk rfl ⟨(by first | rfl | (simp [FS17_4_3]; done) | (simp [FS17_4_3, *]; done) | (simp [FS17_4_3, gotV]; done) | (simp [FS17_4_3, gotV]; omega)), fun h => absurd h (by decide)⟩ (Below.refl _ _)
      | 12, _ =>
       injection ho with ho
       subst ho
       clear hl
       simp only [fillA, List.take, List.drop, put_none, Act.put, List.setIfInBounds_toArray, List.set_cons_zero, List.set_cons_succ, Nat.reduceAdd]
       have f11 := hf 11 (by decide) (by kernel_rfl)
       generalize vals 11 = v11 at *
       subst f11
       have f6 := hf 6 (by decide) (by kernel_rfl)
       generalize vals 6 = v6 at *
       subst f6
       clear hf
       go_wp2_with (fail)
       exact RQ.mk rfl ⟨(by first | rfl | (simp [FS17_4_3]; done) | (simp [FS17_4_3, *]; done) | (simp [FS17_4_3, gotV]; done) | (simp [FS17_4_3, gotV]; omega)), fun h => absurd h (by decide)⟩ (Below.refl _ _)
      | 13, _ =>
       injection ho with ho
       subst ho
       clear hl
       simp only [fillA, List.take, List.drop, put_none, Act.put, List.setIfInBounds_toArray, List.set_cons_zero, List.set_cons_succ, Nat.reduceAdd]
       have f12 := hf 12 (by decide) (by kernel_rfl)
       generalize vals 12 = v12 at *
       subst f12
       have f6 := hf 6 (by decide) (by kernel_rfl)
       generalize vals 6 = v6 at *
       subst f6
       clear hf
       go_wp2_with (fail)
       exact RQ.mk rfl ⟨(by first | rfl | (simp [FS17_4_3]; done) | (simp [FS17_4_3, *]; done) | (simp [FS17_4_3, gotV]; done) | (simp [FS17_4_3, gotV]; omega)), fun h => absurd h (by decide)⟩ (Below.refl _ _)
      | 14, _ =>
       injection ho with ho
       subst ho
       clear hl
       simp only [fillA, List.take, List.drop, put_none, Act.put, List.setIfInBounds_toArray, List.set_cons_zero, List.set_cons_succ, Nat.reduceAdd]
       have f6 := hf 6 (by decide) (by kernel_rfl)
       generalize vals 6 = v6 at *
       subst f6
       clear hf
       go_wp2_with (fail)
       exact RQ.mk rfl ⟨(by first | rfl | (simp [FS17_4_3]; done) | (simp [FS17_4_3, *]; done) | (simp [FS17_4_3, gotV]; done) | (simp [FS17_4_3, gotV]; omega)), fun h => absurd h (by decide)⟩ (Below.refl _ _)
      | 15, _ =>
       injection ho with ho
       subst ho
       clear hl
       simp only [fillA, List.take, List.drop, put_none, Act.put, List.setIfInBounds_toArray, List.set_cons_zero, List.set_cons_succ, Nat.reduceAdd]
       have f14 := hf 14 (by decide) (by kernel_rfl)
       generalize vals 14 = v14 at *
       subst f14
       have f6 := hf 6 (by decide) (by kernel_rfl)
       generalize vals 6 = v6 at *
       subst f6
       clear hf
       go_wp2_with (fail)
       exact RQ.mk rfl ⟨(by first | rfl | (simp [FS17_4_3]; done) | (simp [FS17_4_3, *]; done) | (simp [FS17_4_3, gotV]; done) | (simp [FS17_4_3, gotV]; omega)), fun h => absurd h (by decide)⟩ (Below.refl _ _)
      | 16, _ =>
       injection ho with ho
       subst ho
       clear hl
       simp only [fillA, List.take, List.drop, put_none, Act.put, List.setIfInBounds_toArray, List.set_cons_zero, List.set_cons_succ, Nat.reduceAdd]
       have f13 := hf 13 (by decide) (by kernel_rfl)
       generalize vals 13 = v13 at *
       subst f13
       have f15 := hf 15 (by decide) (by kernel_rfl)
       generalize vals 15 = v15 at *
       subst f15
       have f6 := hf 6 (by decide) (by kernel_rfl)
       generalize vals 6 = v6 at *
       subst f6
       clear hf
       go_wp2_with (fail)
       exact RQ.mk rfl ⟨(by first | rfl | (simp [FS17_4_3]; done) | (simp [FS17_4_3, *]; done) | (simp [FS17_4_3, gotV]; done) | (simp [FS17_4_3, gotV]; omega)), fun h => absurd h (by decide)⟩ (Below.refl _ _)
      | 17, _ =>
       injection ho with ho
       subst ho
       clear hl
       simp only [fillA, List.take, List.drop, put_none, Act.put, List.setIfInBounds_toArray, List.set_cons_zero, List.set_cons_succ, Nat.reduceAdd]
       have f6 := hf 6 (by decide) (by kernel_rfl)
       generalize vals 6 = v6 at *
       subst f6
       have f16 := hf 16 (by decide) (by kernel_rfl)
       generalize vals 16 = v16 at *
       subst f16
       have f3 := hf 3 (by decide) (by kernel_rfl)
       generalize vals 3 = v3 at *
       subst f3
       clear hf
       go_wp2_with (fail)
       exact RQ.mk rfl ⟨(by first | rfl | (simp [FS17_4_3]; done) | (simp [FS17_4_3, *]; done) | (simp [FS17_4_3, gotV]; done) | (simp [FS17_4_3, gotV]; omega)), fun h => absurd h (by decide)⟩ (Below.refl _ _)
      | 18, _ =>
       injection ho with ho
       subst ho
       clear hl
       simp only [fillA, List.take, List.drop, put_none, Act.put, List.setIfInBounds_toArray, List.set_cons_zero, List.set_cons_succ, Nat.reduceAdd]
       have f3 := hf 3 (by decide) (by kernel_rfl)
       generalize vals 3 = v3 at *
       subst f3
       have f17 := hf 17 (by decide) (by kernel_rfl)
       generalize vals 17 = v17 at *
       subst f17
       clear hf
       go_wp2_with (fail)
       exact RQ.mk rfl ⟨(by first | rfl | (simp [FS17_4_3]; done) | (simp [FS17_4_3, *]; done) | (simp [FS17_4_3, gotV]; done) | (simp [FS17_4_3, gotV]; omega)), fun h => absurd h (by decide)⟩ (Below.refl _ _)
      | m + 19, h => exact absurd h (by omega)
     ·intro vals w1 hb1 hf hd
      simp only [fillA, List.take, List.drop, put_none, Act.put, List.setIfInBounds_toArray, List.set_cons_zero, List.set_cons_succ, Nat.reduceAdd]
      clear hd
      have f0 := hf 0 (by decide)
      generalize vals 0 = v0 at *
      subst f0
      have f1 := hf 1 (by decide)
      generalize vals 1 = v1 at *
      subst f1
      have f2 := hf 2 (by decide)
      generalize vals 2 = v2 at *
      subst f2
      have f3 := hf 3 (by decide)
      generalize vals 3 = v3 at *
      subst f3
      have f4 := hf 4 (by decide)
      generalize vals 4 = v4 at *
      subst f4
      have f5 := hf 5 (by decide)
      generalize vals 5 = v5 at *
      subst f5
      have f6 := hf 6 (by decide)
      generalize vals 6 = v6 at *
      subst f6
      have f7 := hf 7 (by decide)
      generalize vals 7 = v7 at *
      subst f7
      have f8 := hf 8 (by decide)
      generalize vals 8 = v8 at *
      subst f8
      have f9 := hf 9 (by decide)
      generalize vals 9 = v9 at *
      subst f9
      have f10 := hf 10 (by decide)
      generalize vals 10 = v10 at *
      subst f10
      have f11 := hf 11 (by decide)
      generalize vals 11 = v11 at *
      subst f11
      have f12 := hf 12 (by decide)
      generalize vals 12 = v12 at *
      subst f12
      have f13 := hf 13 (by decide)
      generalize vals 13 = v13 at *
      subst f13
      have f14 := hf 14 (by decide)
      generalize vals 14 = v14 at *
      subst f14
      have f15 := hf 15 (by decide)
      generalize vals 15 = v15 at *
      subst f15
      have f16 := hf 16 (by decide)
      generalize vals 16 = v16 at *
      subst f16
      have f17 := hf 17 (by decide)
      generalize vals 17 = v17 at *
      subst f17
      have f18 := hf 18 (by decide)
      generalize vals 18 = v18 at *
      subst f18
      clear hf
      have hc1 := cellOf hb1
      have hf1 := frozOf hb1
      have hz1 := sizeOf hb1
      try simp at hz1
      go_wp2_with (fail)
      go_ret
      exact ⟨ret_bool (by rw [brB, HB.out (by rw [HV.out, HG.out]; rfl)]; simp), by (repeat' (first | exact Below.refl _ _ | assumption | refine Below.setCell ?_ ?_ _ | refine Below.drew ?_ | refine Below.alloc ?_ ?_ _ | refine Below.trans ?_ (Below.mono (by assumption) ?_) | (simp; done) | (simp; omega) | omega))⟩
    have HG := hid hg
    simp only [ivOk] at hg
    by_cases hl2 : y.2 < x.1
    ·have H2 : Hid (ivLt y x = true) := by show _ = _; simpa [ivLt] using hl2
     go_wp2_with (fail)
     refine wp_region_w (n := 19) [] [] (FS17_4_4 d wr x y bx ox k xs.length cap w) rfl (by kernel_rfl) (fun _ _ d _ _ h => by cases d <;> exact h) ?_ ?_ ?_ ?_ ?_ ?_
     ·intro iq
      match iq with
      | 0 | 1 | 2 | 3 | 4 | 5 | 6 | 7 | 8 | 9 | 10 | 11 | 12 | 13 | 14 | 15 | 16 | 17 | 18 => exact Stable.const _
      | n + 19 => exact Stable.const _
     ·intro iq hi
      exact absurd hi (by simp)
     ·intro iq hi
      exact absurd hi (by simp)
     ·intro iq o hi hl ho vals w1 hb1 hf
      exact absurd hl (by simp)
     ·intro iq o hi hl ho vals w1 hb1 hf
      match iq, hi with
      | 0, _ =>
       injection ho with ho
       subst ho
       clear hl
       simp only [fillA, List.take, List.drop, put_none, Act.put, List.setIfInBounds_toArray, List.set_cons_zero, List.set_cons_succ, Nat.reduceAdd]
       clear hf
       have hc1 := cellOf hb1
       have hf1 := frozOf hb1
       have hz1 := sizeOf hb1
       try simp at hz1
       go_wp2_with (fail)
       exact RQ.mk rfl ⟨(by first | rfl | (simp [FS17_4_4]; done) | (simp [FS17_4_4, *]; done) | (simp [FS17_4_4, gotV]; done) | (simp [FS17_4_4, gotV]; omega)), fun h => absurd h (by decide)⟩ (Below.refl _ _)
      | 1, _ =>
       injection ho with ho
       subst ho
       clear hl
       simp only [fillA, List.take, List.drop, put_none, Act.put, List.setIfInBounds_toArray, List.set_cons_zero, List.set_cons_succ, Nat.reduceAdd]
       have f0 := hf 0 (by decide) (by kernel_rfl)
       generalize vals 0 = v0 at *
       subst f0
       clear hf
       have hc1 := cellOf hb1
       have hf1 := frozOf hb1
       have hz1 := sizeOf hb1
       try simp at hz1
       go_wp2_with (first | (go_at_call 52; refine (c_impl_IsInterval _ _ _ ).mono ?_; rintro e w' ⟨rfl, hb⟩; have hc := cellOf hb; have hf := frozOf hb; have hz := sizeOf hb; try simp at hz))
       exact RQ.mk rfl ⟨(by first | rfl | (simp [FS17_4_4]; done) | (simp [FS17_4_4, *]; done) | (simp [FS17_4_4, gotV]; done) | (simp [FS17_4_4, gotV]; omega)), fun h => absurd h (by decide)⟩ (by (repeat' (first | exact Below.refl _ _ | assumption | refine Below.setCell ?_ ?_ _ | refine Below.drew ?_ | refine Below.alloc ?_ ?_ _ | refine Below.trans ?_ (Below.mono (by assumption) ?_) | (simp; done) | (simp; omega) | omega)))
      | 2, _ =>
       injection ho with ho
       subst ho
       clear hl
       simp only [fillA, List.take, List.drop, put_none, Act.put, List.setIfInBounds_toArray, List.set_cons_zero, List.set_cons_succ, Nat.reduceAdd]
       have f1 := hf 1 (by decide) (by kernel_rfl)
       generalize vals 1 = v1 at *
       subst f1
       clear hf
       go_wp2_with (fail)
       exact RQ.mk rfl ⟨(by first | rfl | (simp [FS17_4_4]; done) | (simp [FS17_4_4, *]; done) | (simp [FS17_4_4, gotV]; done) | (simp [FS17_4_4, gotV]; omega)), fun h => absurd h (by decide)⟩ (Below.refl _ _)
      | 3, _ =>
       injection ho with ho
       subst ho
       clear hl
       simp only [fillA, List.take, List.drop, put_none, Act.put, List.setIfInBounds_toArray, List.set_cons_zero, List.set_cons_succ, Nat.reduceAdd]
       have f2 := hf 2 (by decide) (by kernel_rfl)
       generalize vals 2 = v2 at *
       subst f2
       have f1 := hf 1 (by decide) (by kernel_rfl)
       generalize vals 1 = v1 at *
       subst f1
       clear hf
       go_wp2_with (fail)
       exact RQ.mk rfl ⟨(by first | rfl | (simp [FS17_4_4]; done) | (simp [FS17_4_4, *]; done) | (simp [FS17_4_4, gotV]; done) | (simp [FS17_4_4, gotV]; omega)), fun h => absurd h (by decide)⟩ (Below.refl _ _)
      | 4, _ =>
       injection ho with ho
       subst ho
       clear hl
       simp only [fillA, List.take, List.drop, put_none, Act.put, List.setIfInBounds_toArray, List.set_cons_zero, List.set_cons_succ, Nat.reduceAdd]
       have f3 := hf 3 (by decide) (by kernel_rfl)
       generalize vals 3 = v3 at *
       subst f3
       clear hf
       go_wp2_with (fail)
       exact RQ.mk rfl ⟨(by first | rfl | (simp [FS17_4_4]; done) | (simp [FS17_4_4, *]; done) | (simp [FS17_4_4, gotV]; done) | (simp [FS17_4_4, gotV]; omega)), fun h => absurd h (by decide)⟩ (Below.refl _ _)
      | 5, _ =>
       injection ho with ho
       subst ho
       clear hl
       simp only [fillA, List.take, List.drop, put_none, Act.put, List.setIfInBounds_toArray, List.set_cons_zero, List.set_cons_succ, Nat.reduceAdd]
       have f4 := hf 4 (by decide) (by kernel_rfl)
       generalize vals 4 = v4 at *
       subst f4
       have f3 := hf 3 (by decide) (by kernel_rfl)
       generalize vals 3 = v3 at *
       subst f3
       clear hf
       go_wp2_with (fail)
       exact RQ.mk rfl ⟨(by first | rfl | (simp [FS17_4_4]; done) | (simp [FS17_4_4, *]; done) | (simp [FS17_4_4, gotV]; done) | (simp [FS17_4_4, gotV]; omega)), fun h => absurd h (by decide)⟩ (Below.refl _ _)
      | 6, _ =>
       injection ho with ho
       subst ho
       clear hl
       simp only [fillA, List.take, List.drop, put_none, Act.put, List.setIfInBounds_toArray, List.set_cons_zero, List.set_cons_succ, Nat.reduceAdd]
       have f5 := hf 5 (by decide) (by kernel_rfl)
       generalize vals 5 = v5 at *
       subst f5
       have f3 := hf 3 (by decide) (by kernel_rfl)
       generalize vals 3 = v3 at *
       subst f3
       clear hf
       go_wp2_with (fail)
       exact RQ.mk rfl ⟨(by first | rfl | (simp [FS17_4_4]; done) | (simp [FS17_4_4, *]; done) | (simp [FS17_4_4, gotV]; done) | (simp [FS17_4_4, gotV]; omega)), fun h => absurd h (by decide)⟩ (Below.refl _ _)
      | 7, _ =>
       injection ho with ho
       subst ho
       clear hl
       simp only [fillA, List.take, List.drop, put_none, Act.put, List.setIfInBounds_toArray, List.set_cons_zero, List.set_cons_succ, Nat.reduceAdd]
       have f6 := hf 6 (by decide) (by kernel_rfl)
       generalize vals 6 = v6 at *
       subst f6
       clear hf
       go_wp2_with (fail)
       exact RQ.mk rfl ⟨(by first | rfl | (simp [FS17_4_4]; done) | (simp [FS17_4_4, *]; done) | (simp [FS17_4_4, gotV]; done) | (simp [FS17_4_4, gotV]; omega)), fun h => absurd h (by decide)⟩ (Below.refl _ _)
      | 8, _ =>
       injection ho with ho
       subst ho
       clear hl
       simp only [fillA, List.take, List.drop, put_none, Act.put, List.setIfInBounds_toArray, List.set_cons_zero, List.set_cons_succ, Nat.reduceAdd]
       have f7 := hf 7 (by decide) (by kernel_rfl)
       generalize vals 7 = v7 at *
       subst f7
       have f6 := hf 6 (by decide) (by kernel_rfl)
       generalize vals 6 = v6 at *
       subst f6
       clear hf
       have hc1 := cellOf hb1
       have hf1 := frozOf hb1
       have hz1 := sizeOf hb1
       try simp at hz1
       go_wp2_with (fail)
       exact RQ.mk rfl ⟨(by first | rfl | (simp [FS17_4_4]; done) | (simp [FS17_4_4, *]; done) | (simp [FS17_4_4, gotV]; done) | (simp [FS17_4_4, gotV]; omega)), fun h => absurd h (by decide)⟩ (Below.refl _ _)
      | 9, _ =>
       injection ho with ho
       subst ho
       clear hl
       simp only [fillA, List.take, List.drop, put_none, Act.put, List.setIfInBounds_toArray, List.set_cons_zero, List.set_cons_succ, Nat.reduceAdd]
       have f6 := hf 6 (by decide) (by kernel_rfl)
       generalize vals 6 = v6 at *
       subst f6
       clear hf
       go_wp2_with (fail)
       exact RQ.mk rfl ⟨(by first | rfl | (simp [FS17_4_4]; done) | (simp [FS17_4_4, *]; done) | (simp [FS17_4_4, gotV]; done) | (simp [FS17_4_4, gotV]; omega)), fun h => absurd h (by decide)⟩ (Below.refl _ _)
      | 10, _ =>
       injection ho with ho
       subst ho
       clear hl
       simp only [fillA, List.take, List.drop, put_none, Act.put, List.setIfInBounds_toArray, List.set_cons_zero, List.set_cons_succ, Nat.reduceAdd]
       have f9 := hf 9 (by decide) (by kernel_rfl)
       generalize vals 9 = v9 at *
       subst f9
       have f6 := hf 6 (by decide) (by kernel_rfl)
       generalize vals 6 = v6 at *
       subst f6
       clear hf
       go_wp2_with (fail)
       exact RQ.mk rfl ⟨(by first | rfl | (simp [FS17_4_4]; done) | (simp [FS17_4_4, *]; done) | (simp [FS17_4_4, gotV]; done) | (simp [FS17_4_4, gotV]; omega)), fun h => absurd h (by decide)⟩ (Below.refl _ _)
      | 11, _ =>
       injection ho with ho
       subst ho
       clear hl
       simp only [fillA, List.take, List.drop, put_none, Act.put, List.setIfInBounds_toArray, List.set_cons_zero, List.set_cons_succ, Nat.reduceAdd]
       have f8 := hf 8 (by decide) (by kernel_rfl)
       generalize vals 8 = v8 at *
       subst f8
       have f10 := hf 10 (by decide) (by kernel_rfl)
       generalize vals 10 = v10 at *
       subst f10
       have f6 := hf 6 (by decide) (by kernel_rfl)
       generalize vals 6 = v6 at *
       subst f6
       clear hf
       go_wp2_with (fail)
       exact RQ.mk rfl ⟨(by first | rfl | (simp [FS17_4_4]; done) | (simp [FS17_4_4, *]; done) | (simp [FS17_4_4, gotV]; done) | (simp [FS17_4_4, gotV]; omega)), fun h => absurd h (by decide)⟩ (Below.refl _ _)
      | 12, _ =>
       injection ho with ho
       subst ho
       clear hl
       simp only [fillA, List.take, List.drop, put_none, Act.put, List.setIfInBounds_toArray, List.set_cons_zero, List.set_cons_succ, Nat.reduceAdd]
       have f11 := hf 11 (by decide) (by kernel_rfl)
       generalize vals 11 = v11 at *
       subst f11
       have f6 := hf 6 (by decide) (by kernel_rfl)
       generalize vals 6 = v6 at *
       subst f6
       clear hf
       go_wp2_with (fail)
       exact RQ.mk rfl ⟨(by first | rfl | (simp [FS17_4_4]; done) | (simp [FS17_4_4, *]; done) | (simp [FS17_4_4, gotV]; done) | (simp [FS17_4_4, gotV]; omega)), fun h => absurd h (by decide)⟩ (Below.refl _ _)
      | 13, _ =>
       injection ho with ho
       subst ho
       clear hl
       simp only [fillA, List.take, List.drop, put_none, Act.put, List.setIfInBounds_toArray, List.set_cons_zero, List.set_cons_succ, Nat.reduceAdd]
       have f12 := hf 12 (by decide) (by kernel_rfl)
       generalize vals 12 = v12 at *
       subst f12
       have f6 := hf 6 (by decide) (by kernel_rfl)
       generalize vals 6 = v6 at *
       subst f6
       clear hf
       have hc1 := cellOf hb1
       have hf1 := frozOf hb1
       have hz1 := sizeOf hb1
       try simp at hz1
       go_wp2_with (fail)
       exact RQ.mk rfl ⟨(by first | rfl | (simp [FS17_4_4]; done) | (simp [FS17_4_4, *]; done) | (simp [FS17_4_4, gotV]; done) | (simp [FS17_4_4, gotV]; omega)), fun h => absurd h (by decide)⟩ (Below.refl _ _)
      | 14, _ =>
       injection ho with ho
       subst ho
       clear hl
       simp only [fillA, List.take, List.drop, put_none, Act.put, List.setIfInBounds_toArray, List.set_cons_zero, List.set_cons_succ, Nat.reduceAdd]
       have f6 := hf 6 (by decide) (by kernel_rfl)
       generalize vals 6 = v6 at *
       subst f6
       clear hf
       go_wp2_with (fail)
       exact RQ.mk rfl ⟨(by first | rfl | (simp [FS17_4_4]; done) | (simp [FS17_4_4, *]; done) | (simp [FS17_4_4, gotV]; done) | (simp [FS17_4_4, gotV]; omega)), fun h => absurd h (by decide)⟩ (Below.refl _ _)
      | 15, _ =>
       injection ho with ho
       subst ho
       clear hl
       simp only [fillA, List.take, List.drop, put_none, Act.put, List.setIfInBounds_toArray, List.set_cons_zero, List.set_cons_succ, Nat.reduceAdd]
       have f14 := hf 14 (by decide) (by kernel_rfl)
       generalize vals 14 = v14 at *
       subst f14
       have f6 := hf 6 (by decide) (by kernel_rfl)
       generalize vals 6 = v6 at *
       subst f6
       clear hf
       have hc1 := cellOf hb1
       have hf1 := frozOf hb1
       have hz1 := sizeOf hb1
       try simp at hz1
       go_wp2_with (fail)
       exact RQ.mk rfl ⟨(by first | rfl | (simp [FS17_4_4]; done) | (simp [FS17_4_4, *]; done) | (simp [FS17_4_4, gotV]; done) | (simp [FS17_4_4, gotV]; omega)), fun h => absurd h (by decide)⟩ (Below.refl _ _)
      | 16, _ =>
       injection ho with ho
       subst ho
       clear hl
       simp only [fillA, List.take, List.drop, put_none, Act.put, List.setIfInBounds_toArray, List.set_cons_zero, List.set_cons_succ, Nat.reduceAdd]
       have f13 := hf 13 (by decide) (by kernel_rfl)
       generalize vals 13 = v13 at *
       subst f13
       have f15 := hf 15 (by decide) (by kernel_rfl)
       generalize vals 15 = v15 at *
       subst f15
       have f6 := hf 6 (by decide) (by kernel_rfl)
       generalize vals 6 = v6 at *
       subst f6
       clear hf
       go_wp2_with (fail)
       exact RQ.mk rfl ⟨(by first | rfl | (simp [FS17_4_4]; done) | (simp [FS17_4_4, *]; done) | (simp [FS17_4_4, gotV]; done) | (simp [FS17_4_4, gotV]; omega)), fun h => absurd h (by decide)⟩ (Below.refl _ _)
      | 17, _ =>
       injection ho with ho
       subst ho
       clear hl
       simp only [fillA, List.take, List.drop, put_none, Act.put, List.setIfInBounds_toArray, List.set_cons_zero, List.set_cons_succ, Nat.reduceAdd]
       have f6 := hf 6 (by decide) (by kernel_rfl)
       generalize vals 6 = v6 at *
       subst f6
       have f16 := hf 16 (by decide) (by kernel_rfl)
       generalize vals 16 = v16 at *
       subst f16
       have f3 := hf 3 (by decide) (by kernel_rfl)
       generalize vals 3 = v3 at *
       subst f3
       clear hf
       go_wp2_with (fail)
       exact RQ.mk rfl ⟨(by first | rfl | (simp [FS17_4_4]; done) | (simp [FS17_4_4, *]; done) | (simp [FS17_4_4, gotV]; done) | (simp [FS17_4_4, gotV]; omega)), fun h => absurd h (by decide)⟩ (Below.refl _ _)
      | 18, _ =>
       injection ho with ho
       subst ho
       clear hl
       simp only [fillA, List.take, List.drop, put_none, Act.put, List.setIfInBounds_toArray, List.set_cons_zero, List.set_cons_succ, Nat.reduceAdd]
       have f3 := hf 3 (by decide) (by kernel_rfl)
       generalize vals 3 = v3 at *
       subst f3
       have f17 := hf 17 (by decide) (by kernel_rfl)
       generalize vals 17 = v17 at *
       subst f17
       clear hf
       go_wp2_with (fail)
       exact RQ.mk rfl ⟨(by first | rfl | (simp [FS17_4_4]; done) | (simp [FS17_4_4, *]; done) | (simp [FS17_4_4, gotV]; done) | (simp [FS17_4_4, gotV]; omega)), fun h => absurd h (by decide)⟩ (Below.refl _ _)
      | m + 19, h => exact absurd h (by omega)
     ·intro vals w1 hb1 hf hd
      simp only [fillA, List.take, List.drop, put_none, Act.put, List.setIfInBounds_toArray, List.set_cons_zero, List.set_cons_succ, Nat.reduceAdd]
      clear hd
      have f0 := hf 0 (by decide)
      generalize vals 0 = v0 at *
      subst f0
      have f1 := hf 1 (by decide)
      generalize vals 1 = v1 at *
      subst f1
      have f2 := hf 2 (by decide)
      generalize vals 2 = v2 at *
      subst f2
      have f3 := hf 3 (by decide)
      generalize vals 3 = v3 at *
      subst f3
      have f4 := hf 4 (by decide)
      generalize vals 4 = v4 at *
      subst f4
      have f5 := hf 5 (by decide)
      generalize vals 5 = v5 at *
      subst f5
      have f6 := hf 6 (by decide)
      generalize vals 6 = v6 at *
      subst f6
      have f7 := hf 7 (by decide)
      generalize vals 7 = v7 at *
      subst f7
      have f8 := hf 8 (by decide)
      generalize vals 8 = v8 at *
      subst f8
      have f9 := hf 9 (by decide)
      generalize vals 9 = v9 at *
      subst f9
      have f10 := hf 10 (by decide)
      generalize vals 10 = v10 at *
      subst f10
      have f11 := hf 11 (by decide)
      generalize vals 11 = v11 at *
      subst f11
      have f12 := hf 12 (by decide)
      generalize vals 12 = v12 at *
      subst f12
      have f13 := hf 13 (by decide)
      generalize vals 13 = v13 at *
      subst f13
      have f14 := hf 14 (by decide)
      generalize vals 14 = v14 at *
      subst f14
      have f15 := hf 15 (by decide)
      generalize vals 15 = v15 at *
      subst f15
      have f16 := hf 16 (by decide)
      generalize vals 16 = v16 at *
      subst f16
      have f17 := hf 17 (by decide)
      generalize vals 17 = v17 at *
      subst f17
      have f18 := hf 18 (by decide)
      generalize vals 18 = v18 at *
      subst f18
      clear hf
      have hc1 := cellOf hb1
      have hf1 := frozOf hb1
      have hz1 := sizeOf hb1
      try simp at hz1
      go_wp2_with (fail)
      go_roundw
      case rel =>
       refine ⟨k + 2, by omega, by go_num, fun j hj => ?_, ?_, ?_, ?_, by (repeat' (first | exact Below.refl _ _ | assumption | refine Below.setCell ?_ ?_ _ | refine Below.drew ?_ | refine Below.alloc ?_ ?_ _ | refine Below.trans ?_ (Below.mono (by assumption) ?_) | (simp; done) | (simp; omega) | omega))⟩
       ·rcases Nat.lt_or_ge j (k + 1) with h | h
        ·exact HL.out j h
        ·obtain rfl : j = k + 1 := by omega
         rw [HV.out, HG.out, H2.out]; rfl
       all_goals first | (simp [go_sem, ↓IntWalk.iteOmega, *]; done) | (simp [go_sem, ↓IntWalk.iteOmega, *]; omega) | omega
      case measure => simp [intOf]; omega
    ·have H2 : Hid (ivLt y x = false) := by show _ = _; simpa [ivLt] using hl2
     go_wp2_with (fail)
     refine wp_region_w (n := 19) [] [] (FS17_4_5 d wr x y bx ox k xs.length cap w) rfl (by kernel_rfl) (fun _ _ d _ _ h => by cases d <;> exact h) ?_ ?_ ?_ ?_ ?_ ?_
     ·intro iq
      match iq with
      | 0 | 1 | 2 | 3 | 4 | 5 | 6 | 7 | 8 | 9 | 10 | 11 | 12 | 13 | 14 | 15 | 16 | 17 | 18 => exact Stable.const _
      | n + 19 => exact Stable.const _
     ·intro iq hi
      exact absurd hi (by simp)
     ·intro iq hi
      exact absurd hi (by simp)
     ·intro iq o hi hl ho vals w1 hb1 hf
      exact absurd hl (by simp)
     ·intro iq o hi hl ho vals w1 hb1 hf
      match iq, hi with
      | 0, _ =>
       injection ho with ho
       subst ho
       clear hl
       simp only [fillA, List.take, List.drop, put_none, Act.put, List.setIfInBounds_toArray, List.set_cons_zero, List.set_cons_succ, Nat.reduceAdd]
       clear hf
       have hc1 := cellOf hb1
       have hf1 := frozOf hb1
       have hz1 := sizeOf hb1
       try simp at hz1
       go_wp2_with (fail)
       exact RQ.mk rfl ⟨(by first | rfl | (simp [FS17_4_5]; done) | (simp [FS17_4_5, *]; done) | (simp [FS17_4_5, gotV]; done) | (simp [FS17_4_5, gotV]; omega)), fun h => absurd h (by decide)⟩ (Below.refl _ _)
      | 1, _ =>
       injection ho with ho
       subst ho
       clear hl
       simp only [fillA, List.take, List.drop, put_none, Act.put, List.setIfInBounds_toArray, List.set_cons_zero, List.set_cons_succ, Nat.reduceAdd]
       have f0 := hf 0 (by decide) (by kernel_rfl)
       generalize vals 0 = v0 at *
       subst f0
       clear hf
       have hc1 := cellOf hb1
       have hf1 := frozOf hb1
       have hz1 := sizeOf hb1
       try simp at hz1
       go_wp2_with (first | (go_at_call 52; refine (c_impl_IsInterval _ _ _ ).mono ?_; rintro e w' ⟨rfl, hb⟩; have hc := cellOf hb; have hf := frozOf hb; have hz := sizeOf hb; try simp at hz))
       exact RQ.mk rfl ⟨(by first | rfl | (simp [FS17_4_5]; done) | (simp [FS17_4_5, *]; done) | (simp [FS17_4_5, gotV]; done) | (simp [FS17_4_5, gotV]; omega)), fun h => absurd h (by decide)⟩ (by (repeat' (first | exact Below.refl _ _ | assumption | refine Below.setCell ?_ ?_ _ | refine Below.drew ?_ | refine Below.alloc ?_ ?_ _ | refine Below.trans ?_ (Below.mono (by assumption) ?_) | (simp; done) | (simp; omega) | omega)))
      | 2, _ =>
       injection ho with ho
       subst ho
       clear hl
       simp only [fillA, List.take, List.drop, put_none, Act.put, List.setIfInBounds_toArray, List.set_cons_zero, List.set_cons_succ, Nat.reduceAdd]
       have f1 := hf 1 (by decide) (by kernel_rfl)
       generalize vals 1 = v1 at *
       subst f1
       clear hf
       go_wp2_with (fail)
       exact RQ.mk rfl ⟨(by first | rfl | (simp [FS17_4_5]; done) | (simp [FS17_4_5, *]; done) | (simp [FS17_4_5, gotV]; done) | (simp [FS17_4_5, gotV]; omega)), fun h => absurd h (by decide)⟩ (Below.refl _ _)
      | 3, _ =>
       injection ho with ho
       subst ho
       clear hl
       simp only [fillA, List.take, List.drop, put_none, Act.put, List.setIfInBounds_toArray, List.set_cons_zero, List.set_cons_succ, Nat.reduceAdd]
       have f2 := hf 2 (by decide) (by kernel_rfl)
       generalize vals 2 = v2 at *
       subst f2
       have f1 := hf 1 (by decide) (by kernel_rfl)
       generalize vals 1 = v1 at *
       subst f1
       clear hf
       go_wp2_with (fail)
       exact RQ.mk rfl ⟨(by first | rfl | (simp [FS17_4_5]; done) | (simp [FS17_4_5, *]; done) | (simp [FS17_4_5, gotV]; done) | (simp [FS17_4_5, gotV]; omega)), fun h => absurd h (by decide)⟩ (Below.refl _ _)
      | 4, _ =>
       injection ho with ho
       subst ho
       clear hl
       simp only [fillA, List.take, List.drop, put_none, Act.put, List.setIfInBounds_toArray, List.set_cons_zero, List.set_cons_succ, Nat.reduceAdd]
       have f3 := hf 3 (by decide) (by kernel_rfl)
       generalize vals 3 = v3 at *
       subst f3
       clear hf
       go_wp2_with (fail)
       exact RQ.mk rfl ⟨(by first | rfl | (simp [FS17_4_5]; done) | (simp [FS17_4_5, *]; done) | (simp [FS17_4_5, gotV]; done) | (simp [FS17_4_5, gotV]; omega)), fun h => absurd h (by decide)⟩ (Below.refl _ _)
      | 5, _ =>
       injection ho with ho
       subst ho
       clear hl
       simp only [fillA, List.take, List.drop, put_none, Act.put, List.setIfInBounds_toArray, List.set_cons_zero, List.set_cons_succ, Nat.reduceAdd]
       have f4 := hf 4 (by decide) (by kernel_rfl)
       generalize vals 4 = v4 at *
       subst f4
       have f3 := hf 3 (by decide) (by kernel_rfl)
       generalize vals 3 = v3 at *
       subst f3
       clear hf
       go_wp2_with (fail)
       exact RQ.mk rfl ⟨(by first | rfl | (simp [FS17_4_5]; done) | (simp [FS17_4_5, *]; done) | (simp [FS17_4_5, gotV]; done) | (simp [FS17_4_5, gotV]; omega)), fun h => absurd h (by decide)⟩ (Below.refl _ _)
      | 6, _ =>
       injection ho with ho
       subst ho
       clear hl
       simp only [fillA, List.take, List.drop, put_none, Act.put, List.setIfInBounds_toArray, List.set_cons_zero, List.set_cons_succ, Nat.reduceAdd]
       have f5 := hf 5 (by decide) (by kernel_rfl)
       generalize vals 5 = v5 at *
       subst f5
       have f3 := hf 3 (by decide) (by kernel_rfl)
       generalize vals 3 = v3 at *
       subst f3
       clear hf
       go_wp2_with (fail)
       exact RQ.mk rfl ⟨(by first | rfl | (simp [FS17_4_5]; done) | (simp [FS17_4_5, *]; done) | (simp [FS17_4_5, gotV]; done) | (simp [FS17_4_5, gotV]; omega)), fun h => absurd h (by decide)⟩ (Below.refl _ _)
      | 7, _ =>
       injection ho with ho
       subst ho
       clear hl
       simp only [fillA, List.take, List.drop, put_none, Act.put, List.setIfInBounds_toArray, List.set_cons_zero, List.set_cons_succ, Nat.reduceAdd]
       have f6 := hf 6 (by decide) (by kernel_rfl)
       generalize vals 6 = v6 at *
       subst f6
       clear hf
       go_wp2_with (fail)
       exact RQ.mk rfl ⟨(by first | rfl | (simp [FS17_4_5]; done) | (simp [FS17_4_5, *]; done) | (simp [FS17_4_5, gotV]; done) | (simp [FS17_4_5, gotV]; omega)), fun h => absurd h (by decide)⟩ (Below.refl _ _)
      | 8, _ =>
       injection ho with ho
       subst ho
       clear hl
       simp only [fillA, List.take, List.drop, put_none, Act.put, List.setIfInBounds_toArray, List.set_cons_zero, List.set_cons_succ, Nat.reduceAdd]
       have f7 := hf 7 (by decide) (by kernel_rfl)
       generalize vals 7 = v7 at *
       subst f7
       have f6 := hf 6 (by decide) (by kernel_rfl)
       generalize vals 6 = v6 at *
       subst f6
       clear hf
       have hc1 := cellOf hb1
       have hf1 := frozOf hb1
       have hz1 := sizeOf hb1
       try simp at hz1
       go_wp2_with (fail)
       exact RQ.mk rfl ⟨(by first | rfl | (simp [FS17_4_5]; done) | (simp [FS17_4_5, *]; done) | (simp [FS17_4_5, gotV]; done) | (simp [FS17_4_5, gotV]; omega)), fun h => absurd h (by decide)⟩ (Below.refl _ _)
      | 9, _ =>
       injection ho with ho
       subst ho
       clear hl
       simp only [fillA, List.take, List.drop, put_none, Act.put, List.setIfInBounds_toArray, List.set_cons_zero, List.set_cons_succ, Nat.reduceAdd]
       have f6 := hf 6 (by decide) (by kernel_rfl)
       generalize vals 6 = v6 at *
       subst f6
       clear hf
       go_wp2_with (fail)
       exact RQ.mk rfl ⟨(by first | rfl | (simp [FS17_4_5]; done) | (simp [FS17_4_5, *]; done) | (simp [FS17_4_5, gotV]; done) | (simp [FS17_4_5, gotV]; omega)), fun h => absurd h (by decide)⟩ (Below.refl _ _)
      | 10, _ =>
       injection ho with ho
       subst ho
       clear hl
       simp only [fillA, List.take, List.drop, put_none, Act.put, List.setIfInBounds_toArray, List.set_cons_zero, List.set_cons_succ, Nat.reduceAdd]
       have f9 := hf 9 (by decide) (by kernel_rfl)
       generalize vals 9 = v9 at *
       subst f9
       have f6 := hf 6 (by decide) (by kernel_rfl)
       generalize vals 6 = v6 at *
       subst f6
       clear hf
       go_wp2_with (fail)
       exact RQ.mk rfl ⟨(by first | rfl | (simp [FS17_4_5]; done) | (simp [FS17_4_5, *]; done) | (simp [FS17_4_5, gotV]; done) | (simp [FS17_4_5, gotV]; omega)), fun h => absurd h (by decide)⟩ (Below.refl _ _)
      | 11, _ =>
       injection ho with ho
       subst ho
       clear hl
       simp only [fillA, List.take, List.drop, put_none, Act.put, List.setIfInBounds_toArray, List.set_cons_zero, List.set_cons_succ, Nat.reduceAdd]
       have f8 := hf 8 (by decide) (by kernel_rfl)
       generalize vals 8 = v8 at *
       subst f8
       have f10 := hf 10 (by decide) (by kernel_rfl)
       generalize vals 10 = v10 at *
       subst f10
       have f6 := hf 6 (by decide) (by kernel_rfl)
       generalize vals 6 = v6 at *
       subst f6
       clear hf
       go_wp2_with (fail)
       exact RQ.mk rfl ⟨(by first | rfl | (simp [FS17_4_5]; done) | (simp [FS17_4_5, *]; done) | (simp [FS17_4_5, gotV]; done) | (simp [FS17_4_5, gotV]; omega)), fun h => absurd h (by decide)⟩ (Below.refl _ _)
      | 12, _ =>
       injection ho with ho
       subst ho
       clear hl
       simp only [fillA, List.take, List.drop, put_none, Act.put, List.setIfInBounds_toArray, List.set_cons_zero, List.set_cons_succ, Nat.reduceAdd]
       have f11 := hf 11 (by decide) (by kernel_rfl)
       generalize vals 11 = v11 at *
       subst f11
       have f6 := hf 6 (by decide) (by kernel_rfl)
       generalize vals 6 = v6 at *
       subst f6
       clear hf
       go_wp2_with (fail)
       exact RQ.mk rfl ⟨(by first | rfl | (simp [FS17_4_5]; done) | (simp [FS17_4_5, *]; done) | (simp [FS17_4_5, gotV]; done) | (simp [FS17_4_5, gotV]; omega)), fun h => absurd h (by decide)⟩ (Below.refl _ _)
      | 13, _ =>
       injection ho with ho
       subst ho
       clear hl
       simp only [fillA, List.take, List.drop, put_none, Act.put, List.setIfInBounds_toArray, List.set_cons_zero, List.set_cons_succ, Nat.reduceAdd]
       have f12 := hf 12 (by decide) (by kernel_rfl)
       generalize vals 12 = v12 at *
       subst f12
       have f6 := hf 6 (by decide) (by kernel_rfl)
       generalize vals 6 = v6 at *
       subst f6
       clear hf
       have hc1 := cellOf hb1
       have hf1 := frozOf hb1
       have hz1 := sizeOf hb1
       try simp at hz1
       go_wp2_with (fail)
       exact RQ.mk rfl ⟨(by first | rfl | (simp [FS17_4_5]; done) | (simp [FS17_4_5, *]; done) | (simp [FS17_4_5, gotV]; done) | (simp [FS17_4_5, gotV]; omega)), fun h => absurd h (by decide)⟩ (Below.refl _ _)
      | 14, _ =>
       injection ho with ho
       subst ho
       clear hl
       simp only [fillA, List.take, List.drop, put_none, Act.put, List.setIfInBounds_toArray, List.set_cons_zero, List.set_cons_succ, Nat.reduceAdd]
       have f6 := hf 6 (by decide) (by kernel_rfl)
       generalize vals 6 = v6 at *
       subst f6
       clear hf
       go_wp2_with (fail)
       exact RQ.mk rfl ⟨(by first | rfl | (simp [FS17_4_5]; done) | (simp [FS17_4_5, *]; done) | (simp [FS17_4_5, gotV]; done) | (simp [FS17_4_5, gotV]; omega)), fun h => absurd h (by decide)⟩ (Below.refl _ _)
      | 15, _ =>
       injection ho with ho
       subst ho
       clear hl
       simp only [fillA, List.take, List.drop, put_none, Act.put, List.setIfInBounds_toArray, List.set_cons_zero, List.set_cons_succ, Nat.reduceAdd]
       have f14 := hf 14 (by decide) (by kernel_rfl)
       generalize vals 14 = v14 at *
       subst f14
       have f6 := hf 6 (by decide) (by kernel_rfl)
       generalize vals 6 = v6 at *
       subst f6
       clear hf
       have hc1 := cellOf hb1
       have hf1 := frozOf hb1
       have hz1 := sizeOf hb1
       try simp at hz1
       go_wp2_with (fail)
       exact RQ.mk rfl ⟨(by first | rfl | (simp [FS17_4_5]; done) | (simp [FS17_4_5, *]; done) | (simp [FS17_4_5, gotV]; done) | (simp [FS17_4_5, gotV]; omega)), fun h => absurd h (by decide)⟩ (Below.refl _ _)
      | 16, _ =>
       injection ho with ho
       subst ho
       clear hl
       simp only [fillA, List.take, List.drop, put_none, Act.put, List.setIfInBounds_toArray, List.set_cons_zero, List.set_cons_succ, Nat.reduceAdd]
       have f13 := hf 13 (by decide) (by kernel_rfl)
       generalize vals 13 = v13 at *
       subst f13
       have f15 := hf 15 (by decide) (by kernel_rfl)
       generalize vals 15 = v15 at *
       subst f15
       have f6 := hf 6 (by decide) (by kernel_rfl)
       generalize vals 6 = v6 at *
       subst f6
       clear hf
       go_wp2_with (fail)
       exact RQ.mk rfl ⟨(by first | rfl | (simp [FS17_4_5]; done) | (simp [FS17_4_5, *]; done) | (simp [FS17_4_5, gotV]; done) | (simp [FS17_4_5, gotV]; omega)), fun h => absurd h (by decide)⟩ (Below.refl _ _)
      | 17, _ =>
       injection ho with ho
       subst ho
       clear hl
       simp only [fillA, List.take, List.drop, put_none, Act.put, List.setIfInBounds_toArray, List.set_cons_zero, List.set_cons_succ, Nat.reduceAdd]
       have f6 := hf 6 (by decide) (by kernel_rfl)
       generalize vals 6 = v6 at *
       subst f6
       have f16 := hf 16 (by decide) (by kernel_rfl)
       generalize vals 16 = v16 at *
       subst f16
       have f3 := hf 3 (by decide) (by kernel_rfl)
       generalize vals 3 = v3 at *
       subst f3
       clear hf
       go_wp2_with (fail)
       exact RQ.mk rfl ⟨(by first | rfl | (simp [FS17_4_5]; done) | (simp [FS17_4_5, *]; done) | (simp [FS17_4_5, gotV]; done) | (simp [FS17_4_5, gotV]; omega)), fun h => absurd h (by decide)⟩ (Below.refl _ _)
      | 18, _ =>
       injection ho with ho
       subst ho
       clear hl
       simp only [fillA, List.take, List.drop, put_none, Act.put, List.setIfInBounds_toArray, List.set_cons_zero, List.set_cons_succ, Nat.reduceAdd]
       have f3 := hf 3 (by decide) (by kernel_rfl)
       generalize vals 3 = v3 at *
       subst f3
       have f17 := hf 17 (by decide) (by kernel_rfl)
       generalize vals 17 = v17 at *
       subst f17
       clear hf
       go_wp2_with (fail)
       exact RQ.mk rfl ⟨(by first | rfl | (simp [FS17_4_5]; done) | (simp [FS17_4_5, *]; done) | (simp [FS17_4_5, gotV]; done) | (simp [FS17_4_5, gotV]; omega)), fun h => absurd h (by decide)⟩ (Below.refl _ _)
      | m + 19, h => exact absurd h (by omega)
     ·intro vals w1 hb1 hf hd
      simp only [fillA, List.take, List.drop, put_none, Act.put, List.setIfInBounds_toArray, List.set_cons_zero, List.set_cons_succ, Nat.reduceAdd]
      clear hd
      have f0 := hf 0 (by decide)
      generalize vals 0 = v0 at *
      subst f0
      have f1 := hf 1 (by decide)
      generalize vals 1 = v1 at *
      subst f1
      have f2 := hf 2 (by decide)
      generalize vals 2 = v2 at *
      subst f2
      have f3 := hf 3 (by decide)
      generalize vals 3 = v3 at *
      subst f3
      have f4 := hf 4 (by decide)
      generalize vals 4 = v4 at *
      subst f4
      have f5 := hf 5 (by decide)
      generalize vals 5 = v5 at *
      subst f5
      have f6 := hf 6 (by decide)
      generalize vals 6 = v6 at *
      subst f6
      have f7 := hf 7 (by decide)
      generalize vals 7 = v7 at *
      subst f7
      have f8 := hf 8 (by decide)
      generalize vals 8 = v8 at *
      subst f8
      have f9 := hf 9 (by decide)
      generalize vals 9 = v9 at *
      subst f9
      have f10 := hf 10 (by decide)
      generalize vals 10 = v10 at *
      subst f10
      have f11 := hf 11 (by decide)
      generalize vals 11 = v11 at *
      subst f11
      have f12 := hf 12 (by decide)
      generalize vals 12 = v12 at *
      subst f12
      have f13 := hf 13 (by decide)
      generalize vals 13 = v13 at *
      subst f13
      have f14 := hf 14 (by decide)
      generalize vals 14 = v14 at *
      subst f14
      have f15 := hf 15 (by decide)
      generalize vals 15 = v15 at *
      subst f15
      have f16 := hf 16 (by decide)
      generalize vals 16 = v16 at *
      subst f16
      have f17 := hf 17 (by decide)
      generalize vals 17 = v17 at *
      subst f17
      have f18 := hf 18 (by decide)
      generalize vals 18 = v18 at *
      subst f18
      clear hf
      have hc1 := cellOf hb1
      have hf1 := frozOf hb1
      have hz1 := sizeOf hb1
      try simp at hz1
      go_wp2_with (fail)
      go_ret
      exact ⟨ret_bool (by rw [brB, HB.out (by rw [HV.out, HG.out, H2.out]; rfl)]; simp), by (repeat' (first | exact Below.refl _ _ | assumption | refine Below.setCell ?_ ?_ _ | refine Below.drew ?_ | refine Below.alloc ?_ ?_ _ | refine Below.trans ?_ (Below.mono (by assumption) ?_) | (simp; done) | (simp; omega) | omega))⟩
  ·obtain rfl : k = xs.length := by omega
   have hp0' : far wr w.heap.size 0 = _ := hp0
   have hp1' : far wr w.heap.size 1 = _ := hp1
   have HD := hid (vB_all (good := ivOk) (lt := ivLt) (n := 6) hl)
   go_wp2_with (first | (go_at_call 53; refine (c_impl_inside _ _ _ _ ).mono ?_; rintro e w' ⟨rfl, hb⟩; have hc := cellOf hb; have hf := frozOf hb; have hz := sizeOf hb; try simp at hz))
   all_goals go_ret
   all_goals exact ⟨ret_bool (by rw [brB, HD.out]; simp [*]; try omega), by (repeat' (first | exact Below.refl _ _ | assumption | refine Below.setCell ?_ ?_ _ | refine Below.drew ?_ | refine Below.alloc ?_ ?_ _ | refine Below.trans ?_ (Below.mono (by assumption) ?_) | (simp; done) | (simp; omega) | omega))⟩

end Go.Proofs.Yteciijnpfapmhaa
namespace Go.Proofs.Yteciijnpfapmhaa
set_option linter.unusedSimpArgs false
set_option linter.unusedVariables false
open Go.RowKit

set_option maxHeartbeats 400000 in
theorem c_impl_areRequests_1 (x : Int) (w : World)  :
  Calls Try.prog 87 #[.int .i64 (x)] w fun e w' => e = .returned (.bool (!minB x)) ∧ Below w.heap.size w w' := by
 go_enter Try.func87, Try.ntmps87
 go_wp2_with (first | (go_at_call 57; refine (c_impl_isMinute _ _ ).mono ?_; rintro e w' ⟨rfl, hb⟩; have hc := cellOf hb; have hf := frozOf hb; have hz := sizeOf hb; try simp at hz))
 all_goals go_ret
 all_goals
  refine ⟨ret_bool ?_, ?_⟩
  ·first | rfl | omega | (simp []; done) | (simp []; omega) | (simp []; (repeat' split) <;> (first | omega | (simp; done) | (simp; omega))) | (simp_all []; done) | (simp_all []; omega)
  ·(repeat' (first | exact Below.refl _ _ | assumption | refine Below.setCell ?_ ?_ _ | refine Below.drew ?_ | refine Below.alloc ?_ ?_ _ | refine Below.trans ?_ (Below.mono (by assumption) ?_) | (simp; done) | (simp; omega) | omega))

set_option maxHeartbeats 2000000 in
theorem c_idx_req (A : Option Addr) (xs : List (Int)) (cap : Nat)  (w : World) (h0 : Rds cIn 1 w A xs) (hn : xs.length ≤ 9223372036854775807)  :
  Calls Try.prog 88 #[.slice A xs.length cap, .func (.func 87) #[] #[]] w fun e w' => e = .returned (.int .i64 (idxF noMin xs)) ∧ Below w.heap.size w w' := by
 go_enter Try.func88, Try.ntmps88
 go_wp2_with (fail)
 go_loopw [5, 8] (fun _ i wr => ∃ k : Nat, k ≤ xs.length ∧ i = .int .i64 k ∧ (xs.take k).any noMin = false ∧ Below w.heap.size w wr) (fun _ i _ => xs.length - (intOf i).toNat)
 case atStart => exact ⟨0, Nat.zero_le _, rfl, rfl, Below.refl _ _⟩
 case round =>
  obtain ⟨k, hk, rfl, hl, hbr⟩ := hrel
  have HT := hid hl
  clear hl
  by_cases hlt : k < xs.length
  ·obtain ⟨bx, ox, rfl, hbx, hcx⟩ := h0 k xs[k] (List.getElem?_eq_getElem hlt)
   have hx0 := hcx 0 _ rfl
   simp only [Nat.add_zero, Nat.mul_one] at hx0
   clear hcx h0
   skip
   have HS := hid (any_snoc noMin xs k hlt)
   have HH := hid (fun hp => idxF_hit (p := noMin) (xs := xs) HT.out hlt hp)
   obtain ⟨x, hxk⟩ : ∃ x, x = xs[k] := ⟨_, rfl⟩
   simp only [← hxk] at hx0 HS HH
   clear hxk
   have hc := cellOf hbr
   have hf := frozOf hbr
   have hz := sizeOf hbr
   skip
   by_cases hp : noMin x = true
   ·have HP := hid hp
    have hp' := hp
    simp only [noMin, Bool.not_eq_true', Bool.not_eq_false'] at hp'
    clear hp
    go_wp2_with (go_at_call 87; refine (c_impl_areRequests_1 _ _).mono ?_; rintro e w2 ⟨rfl, hb2⟩)
    go_ret
    exact ⟨ret_int (HH.out HP.out).symm, by (repeat' (first | exact Below.refl _ _ | assumption | refine Below.setCell ?_ ?_ _ | refine Below.drew ?_ | refine Below.alloc ?_ ?_ _ | refine Below.trans ?_ (Below.mono (by assumption) ?_) | (simp; done) | (simp; omega) | omega))⟩
   ·have HP : Hid (noMin x = false) := by show _ = _; simpa using hp
    have hp' := HP.out
    simp only [noMin, Bool.not_eq_true', Bool.not_eq_false'] at hp'
    clear hp
    go_wp2_with (go_at_call 87; refine (c_impl_areRequests_1 _ _).mono ?_; rintro e w2 ⟨rfl, hb2⟩)
    go_roundw
    case rel => exact ⟨k + 1, by omega, by go_num, by rw [HS.out, HT.out, HP.out]; rfl, by (repeat' (first | exact Below.refl _ _ | assumption | refine Below.setCell ?_ ?_ _ | refine Below.drew ?_ | refine Below.alloc ?_ ?_ _ | refine Below.trans ?_ (Below.mono (by assumption) ?_) | (simp; done) | (simp; omega) | omega))⟩
    case measure => simp [intOf]; omega
  ·obtain rfl : k = xs.length := by omega
   have HN := hid (idxF_none (p := noMin) (xs := xs) (by have := HT.out; rwa [List.take_length] at this))
   go_wp2_with (fail)
   go_ret
   exact ⟨ret_int HN.out.symm, by (repeat' (first | exact Below.refl _ _ | assumption | refine Below.setCell ?_ ?_ _ | refine Below.drew ?_ | refine Below.alloc ?_ ?_ _ | refine Below.trans ?_ (Below.mono (by assumption) ?_) | (simp; done) | (simp; omega) | omega))⟩

set_option maxHeartbeats 2000000 in
theorem c_has_req (A : Option Addr) (xs : List (Int)) (cap : Nat)  (w : World) (h0 : Rds cIn 1 w A xs) (hn : xs.length ≤ 9223372036854775807)  :
  Calls Try.prog 64 #[.slice A xs.length cap, .func (.func 87) #[] #[]] w fun e w' => e = .returned (.bool (xs.any noMin)) ∧ Below w.heap.size w w' := by
 go_enter Try.func64, Try.ntmps64
 go_wp2_with (go_at_call 88; refine (c_idx_req _ _ _ _ (by assumption) (by assumption) ).mono ?_; rintro e w' ⟨rfl, hb⟩)
 all_goals go_ret
 all_goals exact ⟨ret_bool (by rw [← idxF_any]; simp), by (repeat' (first | exact Below.refl _ _ | assumption | refine Below.setCell ?_ ?_ _ | refine Below.drew ?_ | refine Below.alloc ?_ ?_ _ | refine Below.trans ?_ (Below.mono (by assumption) ?_) | (simp; done) | (simp; omega) | omega))⟩

set_option maxRecDepth 100000 in
set_option maxHeartbeats 4000000 in
theorem c_impl_areRequests (d : Int) (A : Option Addr) (xs : List (Int × Int)) (cap : Nat) (B : Option Addr) (rs : List Int) (capr : Nat) (p : Int) (w : World) (hx : Rds cIv 2 w A xs) (hn : xs.length ≤ 9223372036854775807) (hr : Rds cIn 1 w B rs) (hnr : rs.length ≤ 9223372036854775807) :
  Calls Try.prog 63 #[.agg #[.int .i64 d, .slice A xs.length cap], .slice B rs.length capr, .int .i64 p] w fun e w' => e = .returned (.bool (reqB d xs rs p)) ∧ Below w.heap.size w w' := by
 by_cases hs0 : brB d xs = true
 rotate_left
 ·have hn0 : brB d xs = false := Bool.eq_false_iff.2 hs0
  have HV := hid (reqB_no1 (rs := rs) (p := p) hn0)
  clear hs0
  go_enter Try.func63, Try.ntmps63
  go_wp2_with (first | (go_at_call 17; refine (c_impl_IsValidBridge _ _ _ _ _ (by first | assumption | exact Rds.below hx (by (repeat' (first | exact Below.refl _ _ | assumption | refine Below.setCell ?_ ?_ _ | refine Below.drew ?_ | refine Below.alloc ?_ ?_ _ | refine Below.trans ?_ (Below.mono (by assumption) ?_) | (simp; done) | (simp; omega) | omega)))) (by omega)).mono ?_; rintro e w' ⟨rfl, hb⟩; have hc := cellOf hb; have hf := frozOf hb; have hz := sizeOf hb; try simp at hz) | (go_at_call 53; refine (c_impl_inside _ _ _ _ ).mono ?_; rintro e w' ⟨rfl, hb⟩; have hc := cellOf hb; have hf := frozOf hb; have hz := sizeOf hb; try simp at hz))
  all_goals go_ret
  all_goals exact ⟨by first | (rw [HV.out]; done) | (rw [HV.out]; rfl), by (repeat' (first | exact Below.refl _ _ | assumption | refine Below.setCell ?_ ?_ _ | refine Below.drew ?_ | refine Below.alloc ?_ ?_ _ | refine Below.trans ?_ (Below.mono (by assumption) ?_) | (simp; done) | (simp; omega) | omega))⟩
 by_cases hs1 : rs.length ≤ 8
 rotate_left
 ·have HV := hid (reqB_no2 (d := d) (xs := xs) (p := p) hs1)
  go_enter Try.func63, Try.ntmps63
  go_wp2_with (first | (go_at_call 17; refine (c_impl_IsValidBridge _ _ _ _ _ (by first | assumption | exact Rds.below hx (by (repeat' (first | exact Below.refl _ _ | assumption | refine Below.setCell ?_ ?_ _ | refine Below.drew ?_ | refine Below.alloc ?_ ?_ _ | refine Below.trans ?_ (Below.mono (by assumption) ?_) | (simp; done) | (simp; omega) | omega)))) (by omega)).mono ?_; rintro e w' ⟨rfl, hb⟩; have hc := cellOf hb; have hf := frozOf hb; have hz := sizeOf hb; try simp at hz) | (go_at_call 53; refine (c_impl_inside _ _ _ _ ).mono ?_; rintro e w' ⟨rfl, hb⟩; have hc := cellOf hb; have hf := frozOf hb; have hz := sizeOf hb; try simp at hz))
  all_goals go_ret
  all_goals exact ⟨by first | (rw [HV.out]; done) | (rw [HV.out]; rfl), by (repeat' (first | exact Below.refl _ _ | assumption | refine Below.setCell ?_ ?_ _ | refine Below.drew ?_ | refine Below.alloc ?_ ?_ _ | refine Below.trans ?_ (Below.mono (by assumption) ?_) | (simp; done) | (simp; omega) | omega))⟩
 by_cases hs2 : inB p 0 120 = true
 rotate_left
 ·have hn2 : inB p 0 120 = false := Bool.eq_false_iff.2 hs2
  have HV := hid (reqB_no3 (d := d) (xs := xs) (rs := rs) hn2)
  clear hs2
  go_enter Try.func63, Try.ntmps63
  go_wp2_with (first | (go_at_call 17; refine (c_impl_IsValidBridge _ _ _ _ _ (by first | assumption | exact Rds.below hx (by (repeat' (first | exact Below.refl _ _ | assumption | refine Below.setCell ?_ ?_ _ | refine Below.drew ?_ | refine Below.alloc ?_ ?_ _ | refine Below.trans ?_ (Below.mono (by assumption) ?_) | (simp; done) | (simp; omega) | omega)))) (by omega)).mono ?_; rintro e w' ⟨rfl, hb⟩; have hc := cellOf hb; have hf := frozOf hb; have hz := sizeOf hb; try simp at hz) | (go_at_call 53; refine (c_impl_inside _ _ _ _ ).mono ?_; rintro e w' ⟨rfl, hb⟩; have hc := cellOf hb; have hf := frozOf hb; have hz := sizeOf hb; try simp at hz))
  all_goals go_ret
  all_goals exact ⟨by first | (rw [HV.out]; done) | (rw [HV.out]; rfl), by (repeat' (first | exact Below.refl _ _ | assumption | refine Below.setCell ?_ ?_ _ | refine Below.drew ?_ | refine Below.alloc ?_ ?_ _ | refine Below.trans ?_ (Below.mono (by assumption) ?_) | (simp; done) | (simp; omega) | omega))⟩
 have HV := hid (show reqB d xs rs p = (sortB rs && !(rs.any noMin)) by simp [reqB, hs0, hs2, req_split, hs1])
 by_cases h1 : sortB rs = true
 ·by_cases h2 : rs.any noMin = true
  ·rw [h1, h2] at HV
   go_enter Try.func63, Try.ntmps63
   go_wp2_with (first | (first | (go_at_call 17; refine (c_impl_IsValidBridge _ _ _ _ _ (by first | assumption | exact Rds.below hx (by (repeat' (first | exact Below.refl _ _ | assumption | refine Below.setCell ?_ ?_ _ | refine Below.drew ?_ | refine Below.alloc ?_ ?_ _ | refine Below.trans ?_ (Below.mono (by assumption) ?_) | (simp; done) | (simp; omega) | omega)))) (by omega)).mono ?_; rintro e w' ⟨rfl, hb⟩; have hc := cellOf hb; have hf := frozOf hb; have hz := sizeOf hb; try simp at hz) | (go_at_call 53; refine (c_impl_inside _ _ _ _ ).mono ?_; rintro e w' ⟨rfl, hb⟩; have hc := cellOf hb; have hf := frozOf hb; have hz := sizeOf hb; try simp at hz)) | (go_at_call 86; refine (c_sorted _ _ _ _ (by first | assumption | exact Rds.below hr (by (repeat' (first | exact Below.refl _ _ | assumption | refine Below.setCell ?_ ?_ _ | refine Below.drew ?_ | refine Below.alloc ?_ ?_ _ | refine Below.trans ?_ (Below.mono (by assumption) ?_) | (simp; done) | (simp; omega) | omega)))) (by omega)).mono ?_; rintro e w' ⟨rfl, hb⟩; have hc := cellOf hb; have hf := frozOf hb; have hz := sizeOf hb; try simp at hz) | (go_at_call 64; refine (c_has_req _ _ _ _ (by first | assumption | exact Rds.below hr (by (repeat' (first | exact Below.refl _ _ | assumption | refine Below.setCell ?_ ?_ _ | refine Below.drew ?_ | refine Below.alloc ?_ ?_ _ | refine Below.trans ?_ (Below.mono (by assumption) ?_) | (simp; done) | (simp; omega) | omega)))) (by omega)).mono ?_; rintro e w' ⟨rfl, hb⟩; have hc := cellOf hb; have hf := frozOf hb; have hz := sizeOf hb; try simp at hz))
   all_goals go_ret
   all_goals exact ⟨ret_bool (by rw [HV.out]; simp), by (repeat' (first | exact Below.refl _ _ | assumption | refine Below.setCell ?_ ?_ _ | refine Below.drew ?_ | refine Below.alloc ?_ ?_ _ | refine Below.trans ?_ (Below.mono (by assumption) ?_) | (simp; done) | (simp; omega) | omega))⟩
  ·have h3 : rs.any noMin = false := by simpa using h2
   clear h2
   rw [h1, h3] at HV
   go_enter Try.func63, Try.ntmps63
   go_wp2_with (first | (first | (go_at_call 17; refine (c_impl_IsValidBridge _ _ _ _ _ (by first | assumption | exact Rds.below hx (by (repeat' (first | exact Below.refl _ _ | assumption | refine Below.setCell ?_ ?_ _ | refine Below.drew ?_ | refine Below.alloc ?_ ?_ _ | refine Below.trans ?_ (Below.mono (by assumption) ?_) | (simp; done) | (simp; omega) | omega)))) (by omega)).mono ?_; rintro e w' ⟨rfl, hb⟩; have hc := cellOf hb; have hf := frozOf hb; have hz := sizeOf hb; try simp at hz) | (go_at_call 53; refine (c_impl_inside _ _ _ _ ).mono ?_; rintro e w' ⟨rfl, hb⟩; have hc := cellOf hb; have hf := frozOf hb; have hz := sizeOf hb; try simp at hz)) | (go_at_call 86; refine (c_sorted _ _ _ _ (by first | assumption | exact Rds.below hr (by (repeat' (first | exact Below.refl _ _ | assumption | refine Below.setCell ?_ ?_ _ | refine Below.drew ?_ | refine Below.alloc ?_ ?_ _ | refine Below.trans ?_ (Below.mono (by assumption) ?_) | (simp; done) | (simp; omega) | omega)))) (by omega)).mono ?_; rintro e w' ⟨rfl, hb⟩; have hc := cellOf hb; have hf := frozOf hb; have hz := sizeOf hb; try simp at hz) | (go_at_call 64; refine (c_has_req _ _ _ _ (by first | assumption | exact Rds.below hr (by (repeat' (first | exact Below.refl _ _ | assumption | refine Below.setCell ?_ ?_ _ | refine Below.drew ?_ | refine Below.alloc ?_ ?_ _ | refine Below.trans ?_ (Below.mono (by assumption) ?_) | (simp; done) | (simp; omega) | omega)))) (by omega)).mono ?_; rintro e w' ⟨rfl, hb⟩; have hc := cellOf hb; have hf := frozOf hb; have hz := sizeOf hb; try simp at hz))
   all_goals go_ret
   all_goals exact ⟨ret_bool (by rw [HV.out]; simp), by (repeat' (first | exact Below.refl _ _ | assumption | refine Below.setCell ?_ ?_ _ | refine Below.drew ?_ | refine Below.alloc ?_ ?_ _ | refine Below.trans ?_ (Below.mono (by assumption) ?_) | (simp; done) | (simp; omega) | omega))⟩
 ·have h3 : sortB rs = false := by simpa using h1
  clear h1
  rw [h3, Bool.false_and] at HV
  go_enter Try.func63, Try.ntmps63
  go_wp2_with (first | (first | (go_at_call 17; refine (c_impl_IsValidBridge _ _ _ _ _ (by first | assumption | exact Rds.below hx (by (repeat' (first | exact Below.refl _ _ | assumption | refine Below.setCell ?_ ?_ _ | refine Below.drew ?_ | refine Below.alloc ?_ ?_ _ | refine Below.trans ?_ (Below.mono (by assumption) ?_) | (simp; done) | (simp; omega) | omega)))) (by omega)).mono ?_; rintro e w' ⟨rfl, hb⟩; have hc := cellOf hb; have hf := frozOf hb; have hz := sizeOf hb; try simp at hz) | (go_at_call 53; refine (c_impl_inside _ _ _ _ ).mono ?_; rintro e w' ⟨rfl, hb⟩; have hc := cellOf hb; have hf := frozOf hb; have hz := sizeOf hb; try simp at hz)) | (go_at_call 86; refine (c_sorted _ _ _ _ (by first | assumption | exact Rds.below hr (by (repeat' (first | exact Below.refl _ _ | assumption | refine Below.setCell ?_ ?_ _ | refine Below.drew ?_ | refine Below.alloc ?_ ?_ _ | refine Below.trans ?_ (Below.mono (by assumption) ?_) | (simp; done) | (simp; omega) | omega)))) (by omega)).mono ?_; rintro e w' ⟨rfl, hb⟩; have hc := cellOf hb; have hf := frozOf hb; have hz := sizeOf hb; try simp at hz) | (go_at_call 64; refine (c_has_req _ _ _ _ (by first | assumption | exact Rds.below hr (by (repeat' (first | exact Below.refl _ _ | assumption | refine Below.setCell ?_ ?_ _ | refine Below.drew ?_ | refine Below.alloc ?_ ?_ _ | refine Below.trans ?_ (Below.mono (by assumption) ?_) | (simp; done) | (simp; omega) | omega)))) (by omega)).mono ?_; rintro e w' ⟨rfl, hb⟩; have hc := cellOf hb; have hf := frozOf hb; have hz := sizeOf hb; try simp at hz))
  all_goals go_ret
  all_goals exact ⟨ret_bool (by rw [HV.out]), by (repeat' (first | exact Below.refl _ _ | assumption | refine Below.setCell ?_ ?_ _ | refine Below.drew ?_ | refine Below.alloc ?_ ?_ _ | refine Below.trans ?_ (Below.mono (by assumption) ?_) | (simp; done) | (simp; omega) | omega))⟩

end Go.Proofs.Yteciijnpfapmhaa
namespace Go.Proofs.Yteciijnpfapmhaa
set_option linter.unusedSimpArgs false
set_option linter.unusedVariables false
open Go.RowKit

def FS62_4 (d : Int) (A : Option Addr) (xs : List (Int × Int)) (x y : Int) (bx ox k n0 n1 cap capp : Nat) (w W0 : World) (iq : Nat) (v : Value) (w1 : World) : Prop := match iq with
 | 0 => v = .agg #[.int .i64 (d), .slice A n0 cap]
 | 1 => v = .slice (some ⟨bx, ox, none⟩) n1 capp
 | 2 => v = .int .i64 (0)
 | 3 => v = .pointer (some ⟨bx, ox + 0, none⟩)
 | 4 => v = .int .i64 (x)
 | 5 => v = .bool (true)
 | 6 => v = .bool (false)
 | 7 => v = .bool (false)
 | 8 => v = .int .i64 (0)
 | 9 => v = .bool (false)
 | 10 => v = .bool (false)
 | 11 => v = undef
 | 12 => v = undef
 | 13 => v = undef
 | 14 => v = undef
 | 15 => v = undef
 | 16 => v = undef
 | 17 => v = undef
 | 18 => v = undef
 | 19 => v = undef
 | 20 => v = undef
 | 21 => v = undef
 | 22 => v = undef
 | 23 => v = undef
 | 24 => v = .bool (false)
 | 25 => v = .bool (false)
 | _ => True

def FS62_4_35 (d : Int) (A : Option Addr) (xs : List (Int × Int)) (x y : Int) (bx ox k n0 n1 cap capp : Nat) (w W0 : World) (iq : Nat) (v : Value) (w1 : World) : Prop := match iq with
 | 0 => v = .agg #[.int .i64 (d), .slice A n0 cap]
 | 1 => v = .slice (some ⟨bx, ox, none⟩) n1 capp
 | 2 => v = .int .i64 (0)
 | 3 => v = .pointer (some ⟨bx, ox + 0, none⟩)
 | 4 => v = .int .i64 (x)
 | 5 => v = .bool (false)
 | 6 => v = .bool (true)
 | 7 => v = .bool (true)
 | 8 => v = undef
 | 9 => v = undef
 | 10 => v = undef
 | 11 => v = undef
 | 12 => v = undef
 | 13 => v = undef
 | 14 => v = undef
 | 15 => v = undef
 | 16 => v = undef
 | 17 => v = undef
 | 18 => v = undef
 | 19 => v = undef
 | 20 => v = undef
 | 21 => v = undef
 | 22 => v = undef
 | 23 => v = undef
 | 24 => v = undef
 | 25 => v = .bool (true)
 | _ => True

def FS62_4_36 (d : Int) (A : Option Addr) (xs : List (Int × Int)) (x y : Int) (bx ox k n0 n1 cap capp : Nat) (w W0 : World) (iq : Nat) (v : Value) (w1 : World) : Prop := match iq with
 | 0 => v = .agg #[.int .i64 (d), .slice A n0 cap]
 | 1 => v = .slice (some ⟨bx, ox, none⟩) n1 capp
 | 2 => v = .int .i64 (k + 1)
 | 3 => v = .pointer (some ⟨bx, ox + (k + 1), none⟩)
 | 4 => v = .int .i64 (x)
 | 5 => v = .bool (false)
 | 6 => v = .bool (true)
 | 7 => v = .bool (true)
 | 8 => v = undef
 | 9 => v = undef
 | 10 => v = undef
 | 11 => v = undef
 | 12 => v = undef
 | 13 => v = undef
 | 14 => v = undef
 | 15 => v = undef
 | 16 => v = undef
 | 17 => v = undef
 | 18 => v = undef
 | 19 => v = undef
 | 20 => v = undef
 | 21 => v = undef
 | 22 => v = undef
 | 23 => v = undef
 | 24 => v = undef
 | 25 => v = .bool (true)
 | _ => True

def FS62_4_37 (d : Int) (A : Option Addr) (xs : List (Int × Int)) (x y : Int) (bx ox k n0 n1 cap capp : Nat) (w W0 : World) (iq : Nat) (v : Value) (w1 : World) : Prop := match iq with
 | 0 => v = .agg #[.int .i64 (d), .slice A n0 cap]
 | 1 => v = .slice (some ⟨bx, ox, none⟩) n1 capp
 | 2 => v = .int .i64 (k + 1)
 | 3 => v = .pointer (some ⟨bx, ox + (k + 1), none⟩)
 | 4 => v = .int .i64 (x)
 | 5 => v = .bool (true)
 | 6 => v = .bool (false)
 | 7 => v = .bool (false)
 | 8 => v = .int .i64 (k + 1)
 | 9 => v = .bool (true)
 | 10 => v = .bool (true)
 | 11 => v = .slice (some ⟨bx, ox, none⟩) n1 capp
 | 12 => v = .int .i64 (k + 1)
 | 13 => v = .int .i64 (k)
 | 14 => v = .pointer (some ⟨bx, ox + k, none⟩)
 | 15 => v = .int .i64 (y)
 | 16 => v = .pointer (some ⟨w.heap.size, 0, none⟩)
 | 17 => v = .int .i64 (d)
 | 18 => v = .int .i64 (y + d)
 | 19 => v = .slice (some ⟨bx, ox, none⟩) n1 capp
 | 20 => v = .int .i64 (k + 1)
 | 21 => v = .pointer (some ⟨bx, ox + (k + 1), none⟩)
 | 22 => v = .int .i64 (x)
 | 23 => v = .bool (true)
 | 24 => v = .bool (true)
 | 25 => v = .bool (true)
 | _ => True

def FS62_4_38 (d : Int) (A : Option Addr) (xs : List (Int × Int)) (x y : Int) (bx ox k n0 n1 cap capp : Nat) (w W0 : World) (iq : Nat) (v : Value) (w1 : World) : Prop := match iq with
 | 0 => v = .agg #[.int .i64 (d), .slice A n0 cap]
 | 1 => v = .slice (some ⟨bx, ox, none⟩) n1 capp
 | 2 => v = .int .i64 (k + 1)
 | 3 => v = .pointer (some ⟨bx, ox + (k + 1), none⟩)
 | 4 => v = .int .i64 (x)
 | 5 => v = .bool (true)
 | 6 => v = .bool (false)
 | 7 => v = .bool (false)
 | 8 => v = .int .i64 (k + 1)
 | 9 => v = .bool (true)
 | 10 => v = .bool (true)
 | 11 => v = .slice (some ⟨bx, ox, none⟩) n1 capp
 | 12 => v = .int .i64 (k + 1)
 | 13 => v = .int .i64 (k)
 | 14 => v = .pointer (some ⟨bx, ox + k, none⟩)
 | 15 => v = .int .i64 (y)
 | 16 => v = .pointer (some ⟨w.heap.size, 0, none⟩)
 | 17 => v = .int .i64 (d)
 | 18 => v = .int .i64 (y + d)
 | 19 => v = .slice (some ⟨bx, ox, none⟩) n1 capp
 | 20 => v = .int .i64 (k + 1)
 | 21 => v = .pointer (some ⟨bx, ox + (k + 1), none⟩)
 | 22 => v = .int .i64 (x)
 | 23 => v = .bool (false)
 | 24 => v = .bool (false)
 | 25 => v = .bool (false)
 | _ => True

set_option maxRecDepth 100000 in
set_option maxHeartbeats 8000000 in
theorem c_spec_l15Plan (d : Int) (A : Option Addr) (xs : List (Int × Int)) (cap : Nat) (B : Option Addr) (rs : List Int) (capr : Nat) (p : Int) (C : Option Addr) (pl : List Int) (capp : Nat) (w : World) (hx : Rds cIv 2 w A xs) (hn : xs.length ≤ 9223372036854775807) (hr : Rds cIn 1 w B rs) (hnr : rs.length ≤ 9223372036854775807) (hq : Rds cIn 1 w C pl) (hnp : pl.length ≤ 9223372036854775807) (hs0 : reqB d xs rs p = true) :
  Calls Try.prog 62 #[.agg #[.int .i64 d, .slice A xs.length cap], .slice B rs.length capr, .int .i64 p, .slice C pl.length capp] w fun e w' => e = .returned (.bool (planB d xs rs p pl)) ∧ Below w.heap.size w w' := by
 have hbr0 := reqB_br hs0
 have hdb := brB_dur hbr0
 have hok := brB_P hbr0
 have hrm := reqB_P hs0
 have hpb := reqB_p hs0
 go_enter Try.func62, Try.ntmps62
 go_wp2_with (fail)
 go_loopw [9] (fun i wr => ∃ k : Nat, k ≤ pl.length ∧ i = .int .i64 k ∧ (∀ j, j < k → vAt (mayB d xs) (gapLe d) pl j = true) ∧ wr.cell? ⟨w.heap.size, 0, none⟩ = some (.int .i64 d) ∧ wr.cell? ⟨w.heap.size, 1, none⟩ = some (.slice A xs.length cap) ∧ w.heap.size + 1 ≤ wr.heap.size ∧ Below w.heap.size w wr) (fun i _ => pl.length - (intOf i).toNat)
 case atStart =>
  refine ⟨0, Nat.zero_le _, rfl, fun j hj => absurd hj (Nat.not_lt_zero j), ?_, ?_, ?_, by (repeat' (first | exact Below.refl _ _ | assumption | refine Below.setCell ?_ ?_ _ | refine Below.drew ?_ | refine Below.alloc ?_ ?_ _ | refine Below.trans ?_ (Below.mono (by assumption) ?_) | (simp; done) | (simp; omega) | omega))⟩
  all_goals first | (simp [go_sem, ↓IntWalk.iteOmega, *]; done) | (simp at *; omega)
 case round =>
  obtain ⟨k, hk, rfl, hl, hp0, hp1, hzz, hbr⟩ := hrel
  have hc := cellOf hbr
  have hf := frozOf hbr
  have hz := sizeOf hbr
  have hp0' : far wr w.heap.size 0 = _ := hp0
  have hp1' : far wr w.heap.size 1 = _ := hp1
  by_cases hlt : k < pl.length
  ·obtain ⟨bx, ox, rfl, hbx, hcx⟩ := Rds.all hq (by omega)
   have HB := hid (fun e => planB_no2 (rs := rs) (p := p) (opsB_bad (d := d) (xs := xs) hlt e))
   have HL := hid hl
   clear hl hq
   cases k with
   | zero =>
    have HV := hid (vAt_zero (good := mayB d xs) (lt := gapLe d) hlt)
    have hx0 := hcx 0 hlt 0 _ rfl
    simp only [Nat.zero_mul, Nat.add_zero] at hx0
    clear hcx
    generalize pl[0] = x at *
    by_cases hg : mayB d xs x = true
    ·have HG := hid hg
     go_wp2_with (fail)
     refine wp_region_w (n := 26) [] [] (FS62_4 d A xs x x bx ox 0 xs.length pl.length cap capp w) rfl (by kernel_rfl) (fun _ _ d _ _ h => by cases d <;> exact h) ?_ ?_ ?_ ?_ ?_ ?_
     ·intro iq
      match iq with
      | 0 | 1 | 2 | 3 | 4 | 5 | 6 | 7 | 8 | 9 | 10 | 11 | 12 | 13 | 14 | 15 | 16 | 17 | 18 | 19 | 20 | 21 | 22 | 23 | 24 | 25 => exact Stable.const _
      | n + 26 => exact Stable.const _
     ·intro iq hi
      exact absurd hi (by simp)
     ·intro iq hi
      exact absurd hi (by simp)
     ·intro iq o hi hl ho vals w1 hb1 hf
      exact absurd hl (by simp)
     ·intro iq o hi hl ho vals w1 hb1 hf
      match iq, hi with
      | 0, _ =>
       injection ho with ho
       subst ho
       clear hl
       simp only [fillA, List.take, List.drop, put_none, Act.put, List.setIfInBounds_toArray, List.set_cons_zero, List.set_cons_succ, Nat.reduceAdd]
       clear hf
       have hc1 := cellOf hb1
       have hf1 := frozOf hb1
       have hz1 := sizeOf hb1
       try simp at hz1
       go_wp2_with (fail)
       exact RQ.mk rfl ⟨(by first | rfl | (simp [FS62_4]; done) | (simp [FS62_4, *]; done) | (simp [FS62_4, gotV]; done) | (simp [FS62_4, gotV]; omega)), fun h => absurd h (by decide)⟩ (Below.refl _ _)
      | 1, _ =>
       injection ho with ho
       subst ho
       clear hl
       simp only [fillA, List.take, List.drop, put_none, Act.put, List.setIfInBounds_toArray, List.set_cons_zero, List.set_cons_succ, Nat.reduceAdd]
       clear hf
       go_wp2_with (fail)
       exact RQ.mk rfl ⟨(by first | rfl | (simp [FS62_4]; done) | (simp [FS62_4, *]; done) | (simp [FS62_4, gotV]; done) | (simp [FS62_4, gotV]; omega)), fun h => absurd h (by decide)⟩ (Below.refl _ _)
      | 2, _ =>
       injection ho with ho
       subst ho
       clear hl
       simp only [fillA, List.take, List.drop, put_none, Act.put, List.setIfInBounds_toArray, List.set_cons_zero, List.set_cons_succ, Nat.reduceAdd]
       clear hf
       go_wp2_with (fail)
       exact RQ.mk rfl ⟨(by first | rfl | (simp [FS62_4]; done) | (simp [FS62_4, *]; done) | (simp [FS62_4, gotV]; done) | (simp [FS62_4, gotV]; omega)), fun h => absurd h (by decide)⟩ (Below.refl _ _)
      | 3, _ =>
       injection ho with ho
       subst ho
       clear hl
       simp only [fillA, List.take, List.drop, put_none, Act.put, List.setIfInBounds_toArray, List.set_cons_zero, List.set_cons_succ, Nat.reduceAdd]
       have f1 := hf 1 (by decide) (by kernel_rfl)
       generalize vals 1 = v1 at *
       subst f1
       have f2 := hf 2 (by decide) (by kernel_rfl)
       generalize vals 2 = v2 at *
       subst f2
       clear hf
       go_wp2_with (fail)
       exact RQ.mk rfl ⟨(by first | rfl | (simp [FS62_4]; done) | (simp [FS62_4, *]; done) | (simp [FS62_4, gotV]; done) | (simp [FS62_4, gotV]; omega)), fun h => absurd h (by decide)⟩ (Below.refl _ _)
      | 4, _ =>
       injection ho with ho
       subst ho
       clear hl
       simp only [fillA, List.take, List.drop, put_none, Act.put, List.setIfInBounds_toArray, List.set_cons_zero, List.set_cons_succ, Nat.reduceAdd]
       have f3 := hf 3 (by decide) (by kernel_rfl)
       generalize vals 3 = v3 at *
       subst f3
       clear hf
       have hc1 := cellOf hb1
       have hf1 := frozOf hb1
       have hz1 := sizeOf hb1
       try simp at hz1
       go_wp2_with (fail)
       exact RQ.mk rfl ⟨(by first | rfl | (simp [FS62_4]; done) | (simp [FS62_4, *]; done) | (simp [FS62_4, gotV]; done) | (simp [FS62_4, gotV]; omega)), fun h => absurd h (by decide)⟩ (Below.refl _ _)
      | 5, _ =>
       injection ho with ho
       subst ho
       clear hl
       simp only [fillA, List.take, List.drop, put_none, Act.put, List.setIfInBounds_toArray, List.set_cons_zero, List.set_cons_succ, Nat.reduceAdd]
       have f0 := hf 0 (by decide) (by kernel_rfl)
       generalize vals 0 = v0 at *
       subst f0
       have f4 := hf 4 (by decide) (by kernel_rfl)
       generalize vals 4 = v4 at *
       subst f4
       clear hf
       have hc1 := cellOf hb1
       have hf1 := frozOf hb1
       have hz1 := sizeOf hb1
       try simp at hz1
       go_wp2_with (first | (go_at_call 56; refine (c_spec_l15May _ _ _ _ _ _ _ (by first | assumption | exact Rds.below hx (by (repeat' (first | exact Below.refl _ _ | assumption | refine Below.setCell ?_ ?_ _ | refine Below.drew ?_ | refine Below.alloc ?_ ?_ _ | refine Below.trans ?_ (Below.mono (by assumption) ?_) | (simp; done) | (simp; omega) | omega)))) rfl (by omega) hok (by omega)).mono ?_; rintro e w' ⟨rfl, hb⟩; have hc := cellOf hb; have hf := frozOf hb; have hz := sizeOf hb; try simp at hz))
       exact RQ.mk rfl ⟨(by first | rfl | (simp [FS62_4]; done) | (simp [FS62_4, *]; done) | (simp [FS62_4, gotV]; done) | (simp [FS62_4, gotV]; omega)), fun h => absurd h (by decide)⟩ (by (repeat' (first | exact Below.refl _ _ | assumption | refine Below.setCell ?_ ?_ _ | refine Below.drew ?_ | refine Below.alloc ?_ ?_ _ | refine Below.trans ?_ (Below.mono (by assumption) ?_) | (simp; done) | (simp; omega) | omega)))
      | 6, _ =>
       injection ho with ho
       subst ho
       clear hl
       simp only [fillA, List.take, List.drop, put_none, Act.put, List.setIfInBounds_toArray, List.set_cons_zero, List.set_cons_succ, Nat.reduceAdd]
       have f5 := hf 5 (by decide) (by kernel_rfl)
       generalize vals 5 = v5 at *
       subst f5
       clear hf
       go_wp2_with (fail)
       exact RQ.mk rfl ⟨(by first | rfl | (simp [FS62_4]; done) | (simp [FS62_4, *]; done) | (simp [FS62_4, gotV]; done) | (simp [FS62_4, gotV]; omega)), fun h => absurd h (by decide)⟩ (Below.refl _ _)
      | 7, _ =>
       injection ho with ho
       subst ho
       clear hl
       simp only [fillA, List.take, List.drop, put_none, Act.put, List.setIfInBounds_toArray, List.set_cons_zero, List.set_cons_succ, Nat.reduceAdd]
       have f6 := hf 6 (by decide) (by kernel_rfl)
       generalize vals 6 = v6 at *
       subst f6
       have f5 := hf 5 (by decide) (by kernel_rfl)
       generalize vals 5 = v5 at *
       subst f5
       clear hf
       go_wp2_with (fail)
       exact RQ.mk rfl ⟨(by first | rfl | (simp [FS62_4]; done) | (simp [FS62_4, *]; done) | (simp [FS62_4, gotV]; done) | (simp [FS62_4, gotV]; omega)), fun h => absurd h (by decide)⟩ (Below.refl _ _)
      | 8, _ =>
       injection ho with ho
       subst ho
       clear hl
       simp only [fillA, List.take, List.drop, put_none, Act.put, List.setIfInBounds_toArray, List.set_cons_zero, List.set_cons_succ, Nat.reduceAdd]
       have f7 := hf 7 (by decide) (by kernel_rfl)
       generalize vals 7 = v7 at *
       subst f7
       clear hf
       go_wp2_with (fail)
       exact RQ.mk rfl ⟨(by first | rfl | (simp [FS62_4]; done) | (simp [FS62_4, *]; done) | (simp [FS62_4, gotV]; done) | (simp [FS62_4, gotV]; omega)), fun h => absurd h (by decide)⟩ (Below.refl _ _)
      | 9, _ =>
       injection ho with ho
       subst ho
       clear hl
       simp only [fillA, List.take, List.drop, put_none, Act.put, List.setIfInBounds_toArray, List.set_cons_zero, List.set_cons_succ, Nat.reduceAdd]
       have f8 := hf 8 (by decide) (by kernel_rfl)
       generalize vals 8 = v8 at *
       subst f8
       have f7 := hf 7 (by decide) (by kernel_rfl)
       generalize vals 7 = v7 at *
       subst f7
       clear hf
       go_wp2_with (fail)
       exact RQ.mk rfl ⟨(by first | rfl | (simp [FS62_4]; done) | (simp [FS62_4, *]; done) | (simp [FS62_4, gotV]; done) | (simp [FS62_4, gotV]; omega)), fun h => absurd h (by decide)⟩ (Below.refl _ _)
      | 10, _ =>
       injection ho with ho
       subst ho
       clear hl
       simp only [fillA, List.take, List.drop, put_none, Act.put, List.setIfInBounds_toArray, List.set_cons_zero, List.set_cons_succ, Nat.reduceAdd]
       have f9 := hf 9 (by decide) (by kernel_rfl)
       generalize vals 9 = v9 at *
       subst f9
       have f7 := hf 7 (by decide) (by kernel_rfl)
       generalize vals 7 = v7 at *
       subst f7
       clear hf
       go_wp2_with (fail)
       exact RQ.mk rfl ⟨(by first | rfl | (simp [FS62_4]; done) | (simp [FS62_4, *]; done) | (simp [FS62_4, gotV]; done) | (simp [FS62_4, gotV]; omega)), fun h => absurd h (by decide)⟩ (Below.refl _ _)
      | 11, _ =>
       injection ho with ho
       subst ho
       clear hl
       simp only [fillA, List.take, List.drop, put_none, Act.put, List.setIfInBounds_toArray, List.set_cons_zero, List.set_cons_succ, Nat.reduceAdd]
       have f10 := hf 10 (by decide) (by kernel_rfl)
       generalize vals 10 = v10 at *
       subst f10
       clear hf
       go_wp2_with (fail)
       exact RQ.mk rfl ⟨(by first | rfl | (simp [FS62_4]; done) | (simp [FS62_4, *]; done) | (simp [FS62_4, gotV]; done) | (simp [FS62_4, gotV]; omega)), fun h => absurd h (by decide)⟩ (Below.refl _ _)
      | 12, _ =>
       injection ho with ho
       subst ho
       clear hl
       simp only [fillA, List.take, List.drop, put_none, Act.put, List.setIfInBounds_toArray, List.set_cons_zero, List.set_cons_succ, Nat.reduceAdd]
       have f10 := hf 10 (by decide) (by kernel_rfl)
       generalize vals 10 = v10 at *
       subst f10
       clear hf
       go_wp2_with (fail)
       exact RQ.mk rfl ⟨(by first | rfl | (simp [FS62_4]; done) | (simp [FS62_4, *]; done) | (simp [FS62_4, gotV]; done) | (simp [FS62_4, gotV]; omega)), fun h => absurd h (by decide)⟩ (Below.refl _ _)
      | 13, _ =>
       injection ho with ho
       subst ho
       clear hl
       simp only [fillA, List.take, List.drop, put_none, Act.put, List.setIfInBounds_toArray, List.set_cons_zero, List.set_cons_succ, Nat.reduceAdd]
       have f12 := hf 12 (by decide) (by kernel_rfl)
       generalize vals 12 = v12 at *
       subst f12
       have f10 := hf 10 (by decide) (by kernel_rfl)
       generalize vals 10 = v10 at *
       subst f10
       clear hf
       go_wp2_with (fail)
       exact RQ.mk rfl ⟨(by first | rfl | (simp [FS62_4]; done) | (simp [FS62_4, *]; done) | (simp [FS62_4, gotV]; done) | (simp [FS62_4, gotV]; omega)), fun h => absurd h (by decide)⟩ (Below.refl _ _)
      | 14, _ =>
       injection ho with ho
       subst ho
       clear hl
       simp only [fillA, List.take, List.drop, put_none, Act.put, List.setIfInBounds_toArray, List.set_cons_zero, List.set_cons_succ, Nat.reduceAdd]
       have f11 := hf 11 (by decide) (by kernel_rfl)
       generalize vals 11 = v11 at *
       subst f11
       have f13 := hf 13 (by decide) (by kernel_rfl)
       generalize vals 13 = v13 at *
       subst f13
       have f10 := hf 10 (by decide) (by kernel_rfl)
       generalize vals 10 = v10 at *
       subst f10
       clear hf
       go_wp2_with (fail)
       exact RQ.mk rfl ⟨(by first | rfl | (simp [FS62_4]; done) | (simp [FS62_4, *]; done) | (simp [FS62_4, gotV]; done) | (simp [FS62_4, gotV]; omega)), fun h => absurd h (by decide)⟩ (Below.refl _ _)
      | 15, _ =>
       injection ho with ho
       subst ho
       clear hl
       simp only [fillA, List.take, List.drop, put_none, Act.put, List.setIfInBounds_toArray, List.set_cons_zero, List.set_cons_succ, Nat.reduceAdd]
       have f14 := hf 14 (by decide) (by kernel_rfl)
       generalize vals 14 = v14 at *
       subst f14
       have f10 := hf 10 (by decide) (by kernel_rfl)
       generalize vals 10 = v10 at *
       subst f10
       clear hf
       go_wp2_with (fail)
       exact RQ.mk rfl ⟨(by first | rfl | (simp [FS62_4]; done) | (simp [FS62_4, *]; done) | (simp [FS62_4, gotV]; done) | (simp [FS62_4, gotV]; omega)), fun h => absurd h (by decide)⟩ (Below.refl _ _)
      | 16, _ =>
       injection ho with ho
       subst ho
       clear hl
       simp only [fillA, List.take, List.drop, put_none, Act.put, List.setIfInBounds_toArray, List.set_cons_zero, List.set_cons_succ, Nat.reduceAdd]
       have f10 := hf 10 (by decide) (by kernel_rfl)
       generalize vals 10 = v10 at *
       subst f10
       clear hf
       go_wp2_with (fail)
       exact RQ.mk rfl ⟨(by first | rfl | (simp [FS62_4]; done) | (simp [FS62_4, *]; done) | (simp [FS62_4, gotV]; done) | (simp [FS62_4, gotV]; omega)), fun h => absurd h (by decide)⟩ (Below.refl _ _)
      | 17, _ =>
       injection ho with ho
       subst ho
       clear hl
       simp only [fillA, List.take, List.drop, put_none, Act.put, List.setIfInBounds_toArray, List.set_cons_zero, List.set_cons_succ, Nat.reduceAdd]
       have f16 := hf 16 (by decide) (by kernel_rfl)
       generalize vals 16 = v16 at *
       subst f16
       have f10 := hf 10 (by decide) (by kernel_rfl)
       generalize vals 10 = v10 at *
       subst f10
       clear hf
       go_wp2_with (fail)
       exact RQ.mk rfl ⟨(by first | rfl | (simp [FS62_4]; done) | (simp [FS62_4, *]; done) | (simp [FS62_4, gotV]; done) | (simp [FS62_4, gotV]; omega)), fun h => absurd h (by decide)⟩ (Below.refl _ _)
      | 18, _ =>
       injection ho with ho
       subst ho
       clear hl
       simp only [fillA, List.take, List.drop, put_none, Act.put, List.setIfInBounds_toArray, List.set_cons_zero, List.set_cons_succ, Nat.reduceAdd]
       have f15 := hf 15 (by decide) (by kernel_rfl)
       generalize vals 15 = v15 at *
       subst f15
       have f17 := hf 17 (by decide) (by kernel_rfl)
       generalize vals 17 = v17 at *
       subst f17
       have f10 := hf 10 (by decide) (by kernel_rfl)
       generalize vals 10 = v10 at *
       subst f10
       clear hf
       go_wp2_with (fail)
       exact RQ.mk rfl ⟨(by first | rfl | (simp [FS62_4]; done) | (simp [FS62_4, *]; done) | (simp [FS62_4, gotV]; done) | (simp [FS62_4, gotV]; omega)), fun h => absurd h (by decide)⟩ (Below.refl _ _)
      | 19, _ =>
       injection ho with ho
       subst ho
       clear hl
       simp only [fillA, List.take, List.drop, put_none, Act.put, List.setIfInBounds_toArray, List.set_cons_zero, List.set_cons_succ, Nat.reduceAdd]
       have f10 := hf 10 (by decide) (by kernel_rfl)
       generalize vals 10 = v10 at *
       subst f10
       clear hf
       go_wp2_with (fail)
       exact RQ.mk rfl ⟨(by first | rfl | (simp [FS62_4]; done) | (simp [FS62_4, *]; done) | (simp [FS62_4, gotV]; done) | (simp [FS62_4, gotV]; omega)), fun h => absurd h (by decide)⟩ (Below.refl _ _)
      | 20, _ =>
       injection ho with ho
       subst ho
       clear hl
       simp only [fillA, List.take, List.drop, put_none, Act.put, List.setIfInBounds_toArray, List.set_cons_zero, List.set_cons_succ, Nat.reduceAdd]
       have f10 := hf 10 (by decide) (by kernel_rfl)
       generalize vals 10 = v10 at *
       subst f10
       clear hf
       go_wp2_with (fail)
       exact RQ.mk rfl ⟨(by first | rfl | (simp [FS62_4]; done) | (simp [FS62_4, *]; done) | (simp [FS62_4, gotV]; done) | (simp [FS62_4, gotV]; omega)), fun h => absurd h (by decide)⟩ (Below.refl _ _)
      | 21, _ =>
       injection ho with ho
       subst ho
       clear hl
       simp only [fillA, List.take, List.drop, put_none, Act.put, List.setIfInBounds_toArray, List.set_cons_zero, List.set_cons_succ, Nat.reduceAdd]
       have f19 := hf 19 (by decide) (by kernel_rfl)
       generalize vals 19 = v19 at *
       subst f19
       have f20 := hf 20 (by decide) (by kernel_rfl)
       generalize vals 20 = v20 at *
       subst f20
       have f10 := hf 10 (by decide) (by kernel_rfl)
       generalize vals 10 = v10 at *
       subst f10
       clear hf
       go_wp2_with (fail)
       exact RQ.mk rfl ⟨(by first | rfl | (simp [FS62_4]; done) | (simp [FS62_4, *]; done) | (simp [FS62_4, gotV]; done) | (simp [FS62_4, gotV]; omega)), fun h => absurd h (by decide)⟩ (Below.refl _ _)
      | 22, _ =>
       injection ho with ho
       subst ho
       clear hl
       simp only [fillA, List.take, List.drop, put_none, Act.put, List.setIfInBounds_toArray, List.set_cons_zero, List.set_cons_succ, Nat.reduceAdd]
       have f21 := hf 21 (by decide) (by kernel_rfl)
       generalize vals 21 = v21 at *
       subst f21
       have f10 := hf 10 (by decide) (by kernel_rfl)
       generalize vals 10 = v10 at *
       subst f10
       clear hf
       go_wp2_with (fail)
       exact RQ.mk rfl ⟨(by first | rfl | (simp [FS62_4]; done) | (simp [FS62_4, *]; done) | (simp [FS62_4, gotV]; done) | (simp [FS62_4, gotV]; omega)), fun h => absurd h (by decide)⟩ (Below.refl _ _)
      | 23, _ =>
       injection ho with ho
       subst ho
       clear hl
       simp only [fillA, List.take, List.drop, put_none, Act.put, List.setIfInBounds_toArray, List.set_cons_zero, List.set_cons_succ, Nat.reduceAdd]
       have f18 := hf 18 (by decide) (by kernel_rfl)
       generalize vals 18 = v18 at *
       subst f18
       have f22 := hf 22 (by decide) (by kernel_rfl)
       generalize vals 22 = v22 at *
       subst f22
       have f10 := hf 10 (by decide) (by kernel_rfl)
       generalize vals 10 = v10 at *
       subst f10
       clear hf
       go_wp2_with (fail)
       exact RQ.mk rfl ⟨(by first | rfl | (simp [FS62_4]; done) | (simp [FS62_4, *]; done) | (simp [FS62_4, gotV]; done) | (simp [FS62_4, gotV]; omega)), fun h => absurd h (by decide)⟩ (Below.refl _ _)
      | 24, _ =>
       injection ho with ho
       subst ho
       clear hl
       simp only [fillA, List.take, List.drop, put_none, Act.put, List.setIfInBounds_toArray, List.set_cons_zero, List.set_cons_succ, Nat.reduceAdd]
       have f10 := hf 10 (by decide) (by kernel_rfl)
       generalize vals 10 = v10 at *
       subst f10
       have f23 := hf 23 (by decide) (by kernel_rfl)
       generalize vals 23 = v23 at *
       subst f23
       have f7 := hf 7 (by decide) (by kernel_rfl)
       generalize vals 7 = v7 at *
       subst f7
       clear hf
       go_wp2_with (fail)
       exact RQ.mk rfl ⟨(by first | rfl | (simp [FS62_4]; done) | (simp [FS62_4, *]; done) | (simp [FS62_4, gotV]; done) | (simp [FS62_4, gotV]; omega)), fun h => absurd h (by decide)⟩ (Below.refl _ _)
      | 25, _ =>
       injection ho with ho
       subst ho
       clear hl
       simp only [fillA, List.take, List.drop, put_none, Act.put, List.setIfInBounds_toArray, List.set_cons_zero, List.set_cons_succ, Nat.reduceAdd]
       have f7 := hf 7 (by decide) (by kernel_rfl)
       generalize vals 7 = v7 at *
       subst f7
       have f24 := hf 24 (by decide) (by kernel_rfl)
       generalize vals 24 = v24 at *
       subst f24
       clear hf
       go_wp2_with (fail)
       exact RQ.mk rfl ⟨(by first | rfl | (simp [FS62_4]; done) | (simp [FS62_4, *]; done) | (simp [FS62_4, gotV]; done) | (simp [FS62_4, gotV]; omega)), fun h => absurd h (by decide)⟩ (Below.refl _ _)
      | m + 26, h => exact absurd h (by omega)
     ·intro vals w1 hb1 hf hd
      simp only [fillA, List.take, List.drop, put_none, Act.put, List.setIfInBounds_toArray, List.set_cons_zero, List.set_cons_succ, Nat.reduceAdd]
      clear hd
      have f0 := hf 0 (by decide)
      generalize vals 0 = v0 at *
      subst f0
      have f1 := hf 1 (by decide)
      generalize vals 1 = v1 at *
      subst f1
      have f2 := hf 2 (by decide)
      generalize vals 2 = v2 at *
      subst f2
      have f3 := hf 3 (by decide)
      generalize vals 3 = v3 at *
      subst f3
      have f4 := hf 4 (by decide)
      generalize vals 4 = v4 at *
      subst f4
      have f5 := hf 5 (by decide)
      generalize vals 5 = v5 at *
      subst f5
      have f6 := hf 6 (by decide)
      generalize vals 6 = v6 at *
      subst f6
      have f7 := hf 7 (by decide)
      generalize vals 7 = v7 at *
      subst f7
      have f8 := hf 8 (by decide)
      generalize vals 8 = v8 at *
      subst f8
      have f9 := hf 9 (by decide)
      generalize vals 9 = v9 at *
      subst f9
      have f10 := hf 10 (by decide)
      generalize vals 10 = v10 at *
      subst f10
      have f11 := hf 11 (by decide)
      generalize vals 11 = v11 at *
      subst f11
      have f12 := hf 12 (by decide)
      generalize vals 12 = v12 at *
      subst f12
      have f13 := hf 13 (by decide)
      generalize vals 13 = v13 at *
      subst f13
      have f14 := hf 14 (by decide)
      generalize vals 14 = v14 at *
      subst f14
      have f15 := hf 15 (by decide)
      generalize vals 15 = v15 at *
      subst f15
      have f16 := hf 16 (by decide)
      generalize vals 16 = v16 at *
      subst f16
      have f17 := hf 17 (by decide)
      generalize vals 17 = v17 at *
      subst f17
      have f18 := hf 18 (by decide)
      generalize vals 18 = v18 at *
      subst f18
      have f19 := hf 19 (by decide)
      generalize vals 19 = v19 at *
      subst f19
      have f20 := hf 20 (by decide)
      generalize vals 20 = v20 at *
      subst f20
      have f21 := hf 21 (by decide)
      generalize vals 21 = v21 at *
      subst f21
      have f22 := hf 22 (by decide)
      generalize vals 22 = v22 at *
      subst f22
      have f23 := hf 23 (by decide)
      generalize vals 23 = v23 at *
      subst f23
      have f24 := hf 24 (by decide)
      generalize vals 24 = v24 at *
      subst f24
      have f25 := hf 25 (by decide)
      generalize vals 25 = v25 at *
      subst f25
      clear hf
      have hc1 := cellOf hb1
      have hf1 := frozOf hb1
      have hz1 := sizeOf hb1
      try simp at hz1
      go_wp2_with (fail)
      go_roundw
      case rel =>
       refine ⟨1, by omega, by go_num, fun j hj => ?_, ?_, ?_, ?_, by (repeat' (first | exact Below.refl _ _ | assumption | refine Below.setCell ?_ ?_ _ | refine Below.drew ?_ | refine Below.alloc ?_ ?_ _ | refine Below.trans ?_ (Below.mono (by assumption) ?_) | (simp; done) | (simp; omega) | omega))⟩
       ·obtain rfl : j = 0 := by omega
        rw [HV.out, HG.out]
       all_goals first | (simp [go_sem, ↓IntWalk.iteOmega, *]; done) | (simp [go_sem, ↓IntWalk.iteOmega, *]; omega) | omega
      case measure => simp [intOf]; omega
    ·have HG : Hid (mayB d xs x = false) := by show _ = _; simpa using hg
     clear hg
     have hg := HG.out
     go_wp2_with (fail)
     refine wp_region_w (n := 26) [] [] (FS62_4_35 d A xs x x bx ox 0 xs.length pl.length cap capp w) rfl (by kernel_rfl) (fun _ _ d _ _ h => by cases d <;> exact h) ?_ ?_ ?_ ?_ ?_ ?_
     ·intro iq
      match iq with
      | 0 | 1 | 2 | 3 | 4 | 5 | 6 | 7 | 8 | 9 | 10 | 11 | 12 | 13 | 14 | 15 | 16 | 17 | 18 | 19 | 20 | 21 | 22 | 23 | 24 | 25 => exact Stable.const _
      | n + 26 => exact Stable.const _
     ·intro iq hi
      exact absurd hi (by simp)
     ·intro iq hi
      exact absurd hi (by simp)
     ·intro iq o hi hl ho vals w1 hb1 hf
      exact absurd hl (by simp)
     ·intro iq o hi hl ho vals w1 hb1 hf
      match iq, hi with
      | 0, _ =>
       injection ho with ho
       subst ho
       clear hl
       simp only [fillA, List.take, List.drop, put_none, Act.put, List.setIfInBounds_toArray, List.set_cons_zero, List.set_cons_succ, Nat.reduceAdd]
       clear hf
       have hc1 := cellOf hb1
       have hf1 := frozOf hb1
       have hz1 := sizeOf hb1
       try simp at hz1
       go_wp2_with (fail)
       exact RQ.mk rfl ⟨(by first | rfl | (simp [FS62_4_35]; done) | (simp [FS62_4_35, *]; done) | (simp [FS62_4_35, gotV]; done) | (simp [FS62_4_35, gotV]; omega)), fun h => absurd h (by decide)⟩ (Below.refl _ _)
      | 1, _ =>
       injection ho with ho
       subst ho
       clear hl
       simp only [fillA, List.take, List.drop, put_none, Act.put, List.setIfInBounds_toArray, List.set_cons_zero, List.set_cons_succ, Nat.reduceAdd]
       clear hf
       go_wp2_with (fail)
       exact RQ.mk rfl ⟨(by first | rfl | (simp [FS62_4_35]; done) | (simp [FS62_4_35, *]; done) | (simp [FS62_4_35, gotV]; done) | (simp [FS62_4_35, gotV]; omega)), fun h => absurd h (by decide)⟩ (Below.refl _ _)
      | 2, _ =>
       injection ho with ho
       subst ho
       clear hl
       simp only [fillA, List.take, List.drop, put_none, Act.put, List.setIfInBounds_toArray, List.set_cons_zero, List.set_cons_succ, Nat.reduceAdd]
       clear hf
       go_wp2_with (fail)
       exact RQ.mk rfl ⟨(by first | rfl | (simp [FS62_4_35]; done) | (simp [FS62_4_35, *]; done) | (simp [FS62_4_35, gotV]; done) | (simp [FS62_4_35, gotV]; omega)), fun h => absurd h (by decide)⟩ (Below.refl _ _)
      | 3, _ =>
       injection ho with ho
       subst ho
       clear hl
       simp only [fillA, List.take, List.drop, put_none, Act.put, List.setIfInBounds_toArray, List.set_cons_zero, List.set_cons_succ, Nat.reduceAdd]
       have f1 := hf 1 (by decide) (by kernel_rfl)
       generalize vals 1 = v1 at *
       subst f1
       have f2 := hf 2 (by decide) (by kernel_rfl)
       generalize vals 2 = v2 at *
       subst f2
       clear hf
       go_wp2_with (fail)
       exact RQ.mk rfl ⟨(by first | rfl | (simp [FS62_4_35]; done) | (simp [FS62_4_35, *]; done) | (simp [FS62_4_35, gotV]; done) | (simp [FS62_4_35, gotV]; omega)), fun h => absurd h (by decide)⟩ (Below.refl _ _)
      | 4, _ =>
       injection ho with ho
       subst ho
       clear hl
       simp only [fillA, List.take, List.drop, put_none, Act.put, List.setIfInBounds_toArray, List.set_cons_zero, List.set_cons_succ, Nat.reduceAdd]
       have f3 := hf 3 (by decide) (by kernel_rfl)
       generalize vals 3 = v3 at *
       subst f3
       clear hf
       have hc1 := cellOf hb1
       have hf1 := frozOf hb1
       have hz1 := sizeOf hb1
       try simp at hz1
       go_wp2_with (fail)
       exact RQ.mk rfl ⟨(by first | rfl | (simp [FS62_4_35]; done) | (simp [FS62_4_35, *]; done) | (simp [FS62_4_35, gotV]; done) | (simp [FS62_4_35, gotV]; omega)), fun h => absurd h (by decide)⟩ (Below.refl _ _)
      | 5, _ =>
       injection ho with ho
       subst ho
       clear hl
       simp only [fillA, List.take, List.drop, put_none, Act.put, List.setIfInBounds_toArray, List.set_cons_zero, List.set_cons_succ, Nat.reduceAdd]
       have f0 := hf 0 (by decide) (by kernel_rfl)
       generalize vals 0 = v0 at *
       subst f0
       have f4 := hf 4 (by decide) (by kernel_rfl)
       generalize vals 4 = v4 at *
       subst f4
       clear hf
       have hc1 := cellOf hb1
       have hf1 := frozOf hb1
       have hz1 := sizeOf hb1
       try simp at hz1
       go_wp2_with (first | (go_at_call 56; refine (c_spec_l15May _ _ _ _ _ _ _ (by first | assumption | exact Rds.below hx (by (repeat' (first | exact Below.refl _ _ | assumption | refine Below.setCell ?_ ?_ _ | refine Below.drew ?_ | refine Below.alloc ?_ ?_ _ | refine Below.trans ?_ (Below.mono (by assumption) ?_) | (simp; done) | (simp; omega) | omega)))) rfl (by omega) hok (by omega)).mono ?_; rintro e w' ⟨rfl, hb⟩; have hc := cellOf hb; have hf := frozOf hb; have hz := sizeOf hb; try simp at hz))
       exact RQ.mk rfl ⟨(by first | rfl | (simp [FS62_4_35]; done) | (simp [FS62_4_35, *]; done) | (simp [FS62_4_35, gotV]; done) | (simp [FS62_4_35, gotV]; omega)), fun h => absurd h (by decide)⟩ (by (repeat' (first | exact Below.refl _ _ | assumption | refine Below.setCell ?_ ?_ _ | refine Below.drew ?_ | refine Below.alloc ?_ ?_ _ | refine Below.trans ?_ (Below.mono (by assumption) ?_) | (simp; done) | (simp; omega) | omega)))
      | 6, _ =>
       injection ho with ho
       subst ho
       clear hl
       simp only [fillA, List.take, List.drop, put_none, Act.put, List.setIfInBounds_toArray, List.set_cons_zero, List.set_cons_succ, Nat.reduceAdd]
       have f5 := hf 5 (by decide) (by kernel_rfl)
       generalize vals 5 = v5 at *
       subst f5
       clear hf
       go_wp2_with (fail)
       exact RQ.mk rfl ⟨(by first | rfl | (simp [FS62_4_35]; done) | (simp [FS62_4_35, *]; done) | (simp [FS62_4_35, gotV]; done) | (simp [FS62_4_35, gotV]; omega)), fun h => absurd h (by decide)⟩ (Below.refl _ _)
      | 7, _ =>
       injection ho with ho
       subst ho
       clear hl
       simp only [fillA, List.take, List.drop, put_none, Act.put, List.setIfInBounds_toArray, List.set_cons_zero, List.set_cons_succ, Nat.reduceAdd]
       have f6 := hf 6 (by decide) (by kernel_rfl)
       generalize vals 6 = v6 at *
       subst f6
       have f5 := hf 5 (by decide) (by kernel_rfl)
       generalize vals 5 = v5 at *
       subst f5
       clear hf
       go_wp2_with (fail)
       exact RQ.mk rfl ⟨(by first | rfl | (simp [FS62_4_35]; done) | (simp [FS62_4_35, *]; done) | (simp [FS62_4_35, gotV]; done) | (simp [FS62_4_35, gotV]; omega)), fun h => absurd h (by decide)⟩ (Below.refl _ _)
      | 8, _ =>
       injection ho with ho
       subst ho
       clear hl
       simp only [fillA, List.take, List.drop, put_none, Act.put, List.setIfInBounds_toArray, List.set_cons_zero, List.set_cons_succ, Nat.reduceAdd]
       have f7 := hf 7 (by decide) (by kernel_rfl)
       generalize vals 7 = v7 at *
       subst f7
       clear hf
       go_wp2_with (fail)
       exact RQ.mk rfl ⟨(by first | rfl | (simp [FS62_4_35]; done) | (simp [FS62_4_35, *]; done) | (simp [FS62_4_35, gotV]; done) | (simp [FS62_4_35, gotV]; omega)), fun h => absurd h (by decide)⟩ (Below.refl _ _)
      | 9, _ =>
       injection ho with ho
       subst ho
       clear hl
       simp only [fillA, List.take, List.drop, put_none, Act.put, List.setIfInBounds_toArray, List.set_cons_zero, List.set_cons_succ, Nat.reduceAdd]
       have f8 := hf 8 (by decide) (by kernel_rfl)
       generalize vals 8 = v8 at *
       subst f8
       have f7 := hf 7 (by decide) (by kernel_rfl)
       generalize vals 7 = v7 at *
       subst f7
       clear hf
       go_wp2_with (fail)
       exact RQ.mk rfl ⟨(by first | rfl | (simp [FS62_4_35]; done) | (simp [FS62_4_35, *]; done) | (simp [FS62_4_35, gotV]; done) | (simp [FS62_4_35, gotV]; omega)), fun h => absurd h (by decide)⟩ (Below.refl _ _)
      | 10, _ =>
       injection ho with ho
       subst ho
       clear hl
       simp only [fillA, List.take, List.drop, put_none, Act.put, List.setIfInBounds_toArray, List.set_cons_zero, List.set_cons_succ, Nat.reduceAdd]
       have f9 := hf 9 (by decide) (by kernel_rfl)
       generalize vals 9 = v9 at *
       subst f9
       have f7 := hf 7 (by decide) (by kernel_rfl)
       generalize vals 7 = v7 at *
       subst f7
       clear hf
       go_wp2_with (fail)
       exact RQ.mk rfl ⟨(by first | rfl | (simp [FS62_4_35]; done) | (simp [FS62_4_35, *]; done) | (simp [FS62_4_35, gotV]; done) | (simp [FS62_4_35, gotV]; omega)), fun h => absurd h (by decide)⟩ (Below.refl _ _)
      | 11, _ =>
       injection ho with ho
       subst ho
       clear hl
       simp only [fillA, List.take, List.drop, put_none, Act.put, List.setIfInBounds_toArray, List.set_cons_zero, List.set_cons_succ, Nat.reduceAdd]
       have f10 := hf 10 (by decide) (by kernel_rfl)
       generalize vals 10 = v10 at *
       subst f10
       clear hf
       go_wp2_with (fail)
       exact RQ.mk rfl ⟨(by first | rfl | (simp [FS62_4_35]; done) | (simp [FS62_4_35, *]; done) | (simp [FS62_4_35, gotV]; done) | (simp [FS62_4_35, gotV]; omega)), fun h => absurd h (by decide)⟩ (Below.refl _ _)
      | 12, _ =>
       injection ho with ho
       subst ho
       clear hl
       simp only [fillA, List.take, List.drop, put_none, Act.put, List.setIfInBounds_toArray, List.set_cons_zero, List.set_cons_succ, Nat.reduceAdd]
       have f10 := hf 10 (by decide) (by kernel_rfl)
       generalize vals 10 = v10 at *
       subst f10
       clear hf
       go_wp2_with (fail)
       exact RQ.mk rfl ⟨(by first | rfl | (simp [FS62_4_35]; done) | (simp [FS62_4_35, *]; done) | (simp [FS62_4_35, gotV]; done) | (simp [FS62_4_35, gotV]; omega)), fun h => absurd h (by decide)⟩ (Below.refl _ _)
      | 13, _ =>
       injection ho with ho
       subst ho
       clear hl
       simp only [fillA, List.take, List.drop, put_none, Act.put, List.setIfInBounds_toArray, List.set_cons_zero, List.set_cons_succ, Nat.reduceAdd]
       have f12 := hf 12 (by decide) (by kernel_rfl)
       generalize vals 12 = v12 at *
       subst f12
       have f10 := hf 10 (by decide) (by kernel_rfl)
       generalize vals 10 = v10 at *
       subst f10
       clear hf
       go_wp2_with (fail)
       exact RQ.mk rfl ⟨(by first | rfl | (simp [FS62_4_35]; done) | (simp [FS62_4_35, *]; done) | (simp [FS62_4_35, gotV]; done) | (simp [FS62_4_35, gotV]; omega)), fun h => absurd h (by decide)⟩ (Below.refl _ _)
      | 14, _ =>
       injection ho with ho
       subst ho
       clear hl
       simp only [fillA, List.take, List.drop, put_none, Act.put, List.setIfInBounds_toArray, List.set_cons_zero, List.set_cons_succ, Nat.reduceAdd]
       have f11 := hf 11 (by decide) (by kernel_rfl)
       generalize vals 11 = v11 at *
       subst f11
       have f13 := hf 13 (by decide) (by kernel_rfl)
       generalize vals 13 = v13 at *
       subst f13
       have f10 := hf 10 (by decide) (by kernel_rfl)
       generalize vals 10 = v10 at *
       subst f10
       clear hf
       go_wp2_with (fail)
       exact RQ.mk rfl ⟨(by first | rfl | (simp [FS62_4_35]; done) | (simp [FS62_4_35, *]; done) | (simp [FS62_4_35, gotV]; done) | (simp [FS62_4_35, gotV]; omega)), fun h => absurd h (by decide)⟩ (Below.refl _ _)
      | 15, _ =>
       injection ho with ho
       subst ho
       clear hl
       simp only [fillA, List.take, List.drop, put_none, Act.put, List.setIfInBounds_toArray, List.set_cons_zero, List.set_cons_succ, Nat.reduceAdd]
       have f14 := hf 14 (by decide) (by kernel_rfl)
       generalize vals 14 = v14 at *
       subst f14
       have f10 := hf 10 (by decide) (by kernel_rfl)
       generalize vals 10 = v10 at *
       subst f10
       clear hf
       go_wp2_with (fail)
       exact RQ.mk rfl ⟨(by first | rfl | (simp [FS62_4_35]; done) | (simp [FS62_4_35, *]; done) | (simp [FS62_4_35, gotV]; done) | (simp [FS62_4_35, gotV]; omega)), fun h => absurd h (by decide)⟩ (Below.refl _ _)
      | 16, _ =>
       injection ho with ho
       subst ho
       clear hl
       simp only [fillA, List.take, List.drop, put_none, Act.put, List.setIfInBounds_toArray, List.set_cons_zero, List.set_cons_succ, Nat.reduceAdd]
       have f10 := hf 10 (by decide) (by kernel_rfl)
       generalize vals 10 = v10 at *
       subst f10
       clear hf
       go_wp2_with (fail)
       exact RQ.mk rfl ⟨(by first | rfl | (simp [FS62_4_35]; done) | (simp [FS62_4_35, *]; done) | (simp [FS62_4_35, gotV]; done) | (simp [FS62_4_35, gotV]; omega)), fun h => absurd h (by decide)⟩ (Below.refl _ _)
      | 17, _ =>
       injection ho with ho
       subst ho
       clear hl
       simp only [fillA, List.take, List.drop, put_none, Act.put, List.setIfInBounds_toArray, List.set_cons_zero, List.set_cons_succ, Nat.reduceAdd]
       have f16 := hf 16 (by decide) (by kernel_rfl)
       generalize vals 16 = v16 at *
       subst f16
       have f10 := hf 10 (by decide) (by kernel_rfl)
       generalize vals 10 = v10 at *
       subst f10
       clear hf
       go_wp2_with (fail)
       exact RQ.mk rfl ⟨(by first | rfl | (simp [FS62_4_35]; done) | (simp [FS62_4_35, *]; done) | (simp [FS62_4_35, gotV]; done) | (simp [FS62_4_35, gotV]; omega)), fun h => absurd h (by decide)⟩ (Below.refl _ _)
      | 18, _ =>
       injection ho with ho
       subst ho
       clear hl
       simp only [fillA, List.take, List.drop, put_none, Act.put, List.setIfInBounds_toArray, List.set_cons_zero, List.set_cons_succ, Nat.reduceAdd]
       have f15 := hf 15 (by decide) (by kernel_rfl)
       generalize vals 15 = v15 at *
       subst f15
       have f17 := hf 17 (by decide) (by kernel_rfl)
       generalize vals 17 = v17 at *
       subst f17
       have f10 := hf 10 (by decide) (by kernel_rfl)
       generalize vals 10 = v10 at *
       subst f10
       clear hf
       go_wp2_with (fail)
       exact RQ.mk rfl ⟨(by first | rfl | (simp [FS62_4_35]; done) | (simp [FS62_4_35, *]; done) | (simp [FS62_4_35, gotV]; done) | (simp [FS62_4_35, gotV]; omega)), fun h => absurd h (by decide)⟩ (Below.refl _ _)
      | 19, _ =>
       injection ho with ho
       subst ho
       clear hl
       simp only [fillA, List.take, List.drop, put_none, Act.put, List.setIfInBounds_toArray, List.set_cons_zero, List.set_cons_succ, Nat.reduceAdd]
       have f10 := hf 10 (by decide) (by kernel_rfl)
       generalize vals 10 = v10 at *
       subst f10
       clear hf
       go_wp2_with (fail)
       exact RQ.mk rfl ⟨(by first | rfl | (simp [FS62_4_35]; done) | (simp [FS62_4_35, *]; done) | (simp [FS62_4_35, gotV]; done) | (simp [FS62_4_35, gotV]; omega)), fun h => absurd h (by decide)⟩ (Below.refl _ _)
      | 20, _ =>
       injection ho with ho
       subst ho
       clear hl
       simp only [fillA, List.take, List.drop, put_none, Act.put, List.setIfInBounds_toArray, List.set_cons_zero, List.set_cons_succ, Nat.reduceAdd]
       have f10 := hf 10 (by decide) (by kernel_rfl)
       generalize vals 10 = v10 at *
       subst f10
       clear hf
       go_wp2_with (fail)
       exact RQ.mk rfl ⟨(by first | rfl | (simp [FS62_4_35]; done) | (simp [FS62_4_35, *]; done) | (simp [FS62_4_35, gotV]; done) | (simp [FS62_4_35, gotV]; omega)), fun h => absurd h (by decide)⟩ (Below.refl _ _)
      | 21, _ =>
       injection ho with ho
       subst ho
       clear hl
       simp only [fillA, List.take, List.drop, put_none, Act.put, List.setIfInBounds_toArray, List.set_cons_zero, List.set_cons_succ, Nat.reduceAdd]
       have f19 := hf 19 (by decide) (by kernel_rfl)
       generalize vals 19 = v19 at *
       subst f19
       have f20 := hf 20 (by decide) (by kernel_rfl)
       generalize vals 20 = v20 at *
       subst f20
       have f10 := hf 10 (by decide) (by kernel_rfl)
       generalize vals 10 = v10 at *
       subst f10
       clear hf
       go_wp2_with (fail)
       exact RQ.mk rfl ⟨(by first | rfl | (simp [FS62_4_35]; done) | (simp [FS62_4_35, *]; done) | (simp [FS62_4_35, gotV]; done) | (simp [FS62_4_35, gotV]; omega)), fun h => absurd h (by decide)⟩ (Below.refl _ _)
      | 22, _ =>
       injection ho with ho
       subst ho
       clear hl
       simp only [fillA, List.take, List.drop, put_none, Act.put, List.setIfInBounds_toArray, List.set_cons_zero, List.set_cons_succ, Nat.reduceAdd]
       have f21 := hf 21 (by decide) (by kernel_rfl)
       generalize vals 21 = v21 at *
       subst f21
       have f10 := hf 10 (by decide) (by kernel_rfl)
       generalize vals 10 = v10 at *
       subst f10
       clear hf
       go_wp2_with (fail)
       exact RQ.mk rfl ⟨(by first | rfl | (simp [FS62_4_35]; done) | (simp [FS62_4_35, *]; done) | (simp [FS62_4_35, gotV]; done) | (simp [FS62_4_35, gotV]; omega)), fun h => absurd h (by decide)⟩ (Below.refl _ _)
      | 23, _ =>
       injection ho with ho
       subst ho
       clear hl
       simp only [fillA, List.take, List.drop, put_none, Act.put, List.setIfInBounds_toArray, List.set_cons_zero, List.set_cons_succ, Nat.reduceAdd]
       have f18 := hf 18 (by decide) (by kernel_rfl)
       generalize vals 18 = v18 at *
       subst f18
       have f22 := hf 22 (by decide) (by kernel_rfl)
       generalize vals 22 = v22 at *
       subst f22
       have f10 := hf 10 (by decide) (by kernel_rfl)
       generalize vals 10 = v10 at *
       subst f10
       clear hf
       go_wp2_with (fail)
       exact RQ.mk rfl ⟨(by first | rfl | (simp [FS62_4_35]; done) | (simp [FS62_4_35, *]; done) | (simp [FS62_4_35, gotV]; done) | (simp [FS62_4_35, gotV]; omega)), fun h => absurd h (by decide)⟩ (Below.refl _ _)
      | 24, _ =>
       injection ho with ho
       subst ho
       clear hl
       simp only [fillA, List.take, List.drop, put_none, Act.put, List.setIfInBounds_toArray, List.set_cons_zero, List.set_cons_succ, Nat.reduceAdd]
       have f10 := hf 10 (by decide) (by kernel_rfl)
       generalize vals 10 = v10 at *
       subst f10
       have f23 := hf 23 (by decide) (by kernel_rfl)
       generalize vals 23 = v23 at *
       subst f23
       have f7 := hf 7 (by decide) (by kernel_rfl)
       generalize vals 7 = v7 at *
       subst f7
       clear hf
       go_wp2_with (fail)
       exact RQ.mk rfl ⟨(by first | rfl | (simp [FS62_4_35]; done) | (simp [FS62_4_35, *]; done) | (simp [FS62_4_35, gotV]; done) | (simp [FS62_4_35, gotV]; omega)), fun h => absurd h (by decide)⟩ (Below.refl _ _)
      | 25, _ =>
       injection ho with ho
       subst ho
       clear hl
       simp only [fillA, List.take, List.drop, put_none, Act.put, List.setIfInBounds_toArray, List.set_cons_zero, List.set_cons_succ, Nat.reduceAdd]
       have f7 := hf 7 (by decide) (by kernel_rfl)
       generalize vals 7 = v7 at *
       subst f7
       have f24 := hf 24 (by decide) (by kernel_rfl)
       generalize vals 24 = v24 at *
       subst f24
       clear hf
       go_wp2_with (fail)
       exact RQ.mk rfl ⟨(by first | rfl | (simp [FS62_4_35]; done) | (simp [FS62_4_35, *]; done) | (simp [FS62_4_35, gotV]; done) | (simp [FS62_4_35, gotV]; omega)), fun h => absurd h (by decide)⟩ (Below.refl _ _)
      | m + 26, h => exact absurd h (by omega)
     ·intro vals w1 hb1 hf hd
      simp only [fillA, List.take, List.drop, put_none, Act.put, List.setIfInBounds_toArray, List.set_cons_zero, List.set_cons_succ, Nat.reduceAdd]
      clear hd
      have f0 := hf 0 (by decide)
      generalize vals 0 = v0 at *
      subst f0
      have f1 := hf 1 (by decide)
      generalize vals 1 = v1 at *
      subst f1
      have f2 := hf 2 (by decide)
      generalize vals 2 = v2 at *
      subst f2
      have f3 := hf 3 (by decide)
      generalize vals 3 = v3 at *
      subst f3
      have f4 := hf 4 (by decide)
      generalize vals 4 = v4 at *
      subst f4
      have f5 := hf 5 (by decide)
      generalize vals 5 = v5 at *
      subst f5
      have f6 := hf 6 (by decide)
      generalize vals 6 = v6 at *
      subst f6
      have f7 := hf 7 (by decide)
      generalize vals 7 = v7 at *
      subst f7
      have f8 := hf 8 (by decide)
      generalize vals 8 = v8 at *
      subst f8
      have f9 := hf 9 (by decide)
      generalize vals 9 = v9 at *
      subst f9
      have f10 := hf 10 (by decide)
      generalize vals 10 = v10 at *
      subst f10
      have f11 := hf 11 (by decide)
      generalize vals 11 = v11 at *
      subst f11
      have f12 := hf 12 (by decide)
      generalize vals 12 = v12 at *
      subst f12
      have f13 := hf 13 (by decide)
      generalize vals 13 = v13 at *
      subst f13
      have f14 := hf 14 (by decide)
      generalize vals 14 = v14 at *
      subst f14
      have f15 := hf 15 (by decide)
      generalize vals 15 = v15 at *
      subst f15
      have f16 := hf 16 (by decide)
      generalize vals 16 = v16 at *
      subst f16
      have f17 := hf 17 (by decide)
      generalize vals 17 = v17 at *
      subst f17
      have f18 := hf 18 (by decide)
      generalize vals 18 = v18 at *
      subst f18
      have f19 := hf 19 (by decide)
      generalize vals 19 = v19 at *
      subst f19
      have f20 := hf 20 (by decide)
      generalize vals 20 = v20 at *
      subst f20
      have f21 := hf 21 (by decide)
      generalize vals 21 = v21 at *
      subst f21
      have f22 := hf 22 (by decide)
      generalize vals 22 = v22 at *
      subst f22
      have f23 := hf 23 (by decide)
      generalize vals 23 = v23 at *
      subst f23
      have f24 := hf 24 (by decide)
      generalize vals 24 = v24 at *
      subst f24
      have f25 := hf 25 (by decide)
      generalize vals 25 = v25 at *
      subst f25
      clear hf
      have hc1 := cellOf hb1
      have hf1 := frozOf hb1
      have hz1 := sizeOf hb1
      try simp at hz1
      go_wp2_with (fail)
      go_ret
      exact ⟨ret_bool (by rw [HB.out (by rw [HV.out, HG.out])]), by (repeat' (first | exact Below.refl _ _ | assumption | refine Below.setCell ?_ ?_ _ | refine Below.drew ?_ | refine Below.alloc ?_ ?_ _ | refine Below.trans ?_ (Below.mono (by assumption) ?_) | (simp; done) | (simp; omega) | omega))⟩
   | succ k =>
    have HV := hid (vAt_succ (good := mayB d xs) (lt := gapLe d) k hlt)
    have hlt' : k < pl.length := by omega
    have hx0 := hcx (k + 1) hlt 0 _ rfl
    have hy0 := hcx k hlt' 0 _ rfl
    simp only [Nat.add_zero, Nat.mul_one] at hx0 hy0
    have hyb : 0 ≤ pl[k] ∧ pl[k] ≤ 9999 := by
     have h := HL.out k (by omega)
     rw [vAt_split _ _ _ _ hlt', Bool.and_eq_true] at h
     have := mayB_bd h.1
     omega
    clear hcx
    generalize pl[k + 1] = x at *
    generalize pl[k] = y at *
    by_cases hg : mayB d xs x = true
    rotate_left
    ·have HG : Hid (mayB d xs x = false) := by show _ = _; simpa using hg
     clear hg
     have hg := HG.out
     go_wp2_with (fail)
     refine wp_region_w (n := 26) [] [] (FS62_4_36 d A xs x y bx ox k xs.length pl.length cap capp w) rfl (by kernel_rfl) (fun _ _ d _ _ h => by cases d <;> exact h) ?_ ?_ ?_ ?_ ?_ ?_
     ·intro iq
      match iq with
      | 0 | 1 | 2 | 3 | 4 | 5 | 6 | 7 | 8 | 9 | 10 | 11 | 12 | 13 | 14 | 15 | 16 | 17 | 18 | 19 | 20 | 21 | 22 | 23 | 24 | 25 => exact Stable.const _
      | n + 26 => exact Stable.const _
     ·intro iq hi
      exact absurd hi (by simp)
     ·intro iq hi
      exact absurd hi (by simp)
     ·intro iq o hi hl ho vals w1 hb1 hf
      exact absurd hl (by simp)
     ·intro iq o hi hl ho vals w1 hb1 hf
      match iq, hi with
      | 0, _ =>
       injection ho with ho
       subst ho
       clear hl
       simp only [fillA, List.take, List.drop, put_none, Act.put, List.setIfInBounds_toArray, List.set_cons_zero, List.set_cons_succ, Nat.reduceAdd]
       clear hf
       have hc1 := cellOf hb1
       have hf1 := frozOf hb1
       have hz1 := sizeOf hb1
       try simp at hz1
       go_wp2_with (fail)
       exact RQ.mk rfl ⟨(by first | rfl | (simp [FS62_4_36]; done) | (simp [FS62_4_36, *]; done) | (simp [FS62_4_36, gotV]; done) | (simp [FS62_4_36, gotV]; omega)), fun h => absurd h (by decide)⟩ (Below.refl _ _)
      | 1, _ =>
       injection ho with ho
       subst ho
       clear hl
       simp only [fillA, List.take, List.drop, put_none, Act.put, List.setIfInBounds_toArray, List.set_cons_zero, List.set_cons_succ, Nat.reduceAdd]
       clear hf
       go_wp2_with (fail)
       exact RQ.mk rfl ⟨(by first | rfl | (simp [FS62_4_36]; done) | (simp [FS62_4_36, *]; done) | (simp [FS62_4_36, gotV]; done) | (simp [FS62_4_36, gotV]; omega)), fun h => absurd h (by decide)⟩ (Below.refl _ _)
      | 2, _ =>
       injection ho with ho
       subst ho
       clear hl
       simp only [fillA, List.take, List.drop, put_none, Act.put, List.setIfInBounds_toArray, List.set_cons_zero, List.set_cons_succ, Nat.reduceAdd]
       clear hf
       go_wp2_with (fail)
       exact RQ.mk rfl ⟨(by first | rfl | (simp [FS62_4_36]; done) | (simp [FS62_4_36, *]; done) | (simp [FS62_4_36, gotV]; done) | (simp [FS62_4_36, gotV]; omega)), fun h => absurd h (by decide)⟩ (Below.refl _ _)
      | 3, _ =>
       injection ho with ho
       subst ho
       clear hl
       simp only [fillA, List.take, List.drop, put_none, Act.put, List.setIfInBounds_toArray, List.set_cons_zero, List.set_cons_succ, Nat.reduceAdd]
       have f1 := hf 1 (by decide) (by kernel_rfl)
       generalize vals 1 = v1 at *
       subst f1
       have f2 := hf 2 (by decide) (by kernel_rfl)
       generalize vals 2 = v2 at *
       subst f2
       clear hf
       go_wp2_with (fail)
       exact RQ.mk rfl ⟨(by first | rfl | (simp [FS62_4_36]; done) | (simp [FS62_4_36, *]; done) | (simp [FS62_4_36, gotV]; done) | (simp [FS62_4_36, gotV]; omega)), fun h => absurd h (by decide)⟩ (Below.refl _ _)
      | 4, _ =>
       injection ho with ho
       subst ho
       clear hl
       simp only [fillA, List.take, List.drop, put_none, Act.put, List.setIfInBounds_toArray, List.set_cons_zero, List.set_cons_succ, Nat.reduceAdd]
       have f3 := hf 3 (by decide) (by kernel_rfl)
       generalize vals 3 = v3 at *
       subst f3
       clear hf
       have hc1 := cellOf hb1
       have hf1 := frozOf hb1
       have hz1 := sizeOf hb1
       try simp at hz1
       go_wp2_with (fail)
       exact RQ.mk rfl ⟨(by first | rfl | (simp [FS62_4_36]; done) | (simp [FS62_4_36, *]; done) | (simp [FS62_4_36, gotV]; done) | (simp [FS62_4_36, gotV]; omega)), fun h => absurd h (by decide)⟩ (Below.refl _ _)
      | 5, _ =>
       injection ho with ho
       subst ho
       clear hl
       simp only [fillA, List.take, List.drop, put_none, Act.put, List.setIfInBounds_toArray, List.set_cons_zero, List.set_cons_succ, Nat.reduceAdd]
       have f0 := hf 0 (by decide) (by kernel_rfl)
       generalize vals 0 = v0 at *
       subst f0
       have f4 := hf 4 (by decide) (by kernel_rfl)
       generalize vals 4 = v4 at *
       subst f4
       clear hf
       have hc1 := cellOf hb1
       have hf1 := frozOf hb1
       have hz1 := sizeOf hb1
       try simp at hz1
       go_wp2_with (first | (go_at_call 56; refine (c_spec_l15May _ _ _ _ _ _ _ (by first | assumption | exact Rds.below hx (by (repeat' (first | exact Below.refl _ _ | assumption | refine Below.setCell ?_ ?_ _ | refine Below.drew ?_ | refine Below.alloc ?_ ?_ _ | refine Below.trans ?_ (Below.mono (by assumption) ?_) | (simp; done) | (simp; omega) | omega)))) rfl (by omega) hok (by omega)).mono ?_; rintro e w' ⟨rfl, hb⟩; have hc := cellOf hb; have hf := frozOf hb; have hz := sizeOf hb; try simp at hz))
       exact RQ.mk rfl ⟨(by first | rfl | (simp [FS62_4_36]; done) | (simp [FS62_4_36, *]; done) | (simp [FS62_4_36, gotV]; done) | (simp [FS62_4_36, gotV]; omega)), fun h => absurd h (by decide)⟩ (by (repeat' (first | exact Below.refl _ _ | assumption | refine Below.setCell ?_ ?_ _ | refine Below.drew ?_ | refine Below.alloc ?_ ?_ _ | refine Below.trans ?_ (Below.mono (by assumption) ?_) | (simp; done) | (simp; omega) | omega)))
      | 6, _ =>
       injection ho with ho
       subst ho
       clear hl
       simp only [fillA, List.take, List.drop, put_none, Act.put, List.setIfInBounds_toArray, List.set_cons_zero, List.set_cons_succ, Nat.reduceAdd]
       have f5 := hf 5 (by decide) (by kernel_rfl)
       generalize vals 5 = v5 at *
       subst f5
       clear hf
       go_wp2_with (fail)
       exact RQ.mk rfl ⟨(by first | rfl | (simp [FS62_4_36]; done) | (simp [FS62_4_36, *]; done) | (simp [FS62_4_36, gotV]; done) | (simp [FS62_4_36, gotV]; omega)), fun h => absurd h (by decide)⟩ (Below.refl _ _)
      | 7, _ =>
       injection ho with ho
       subst ho
       clear hl
       simp only [fillA, List.take, List.drop, put_none, Act.put, List.setIfInBounds_toArray, List.set_cons_zero, List.set_cons_succ, Nat.reduceAdd]
       have f6 := hf 6 (by decide) (by kernel_rfl)
       generalize vals 6 = v6 at *
       subst f6
       have f5 := hf 5 (by decide) (by kernel_rfl)
       generalize vals 5 = v5 at *
       subst f5
       clear hf
       go_wp2_with (fail)
       exact RQ.mk rfl ⟨(by first | rfl | (simp [FS62_4_36]; done) | (simp [FS62_4_36, *]; done) | (simp [FS62_4_36, gotV]; done) | (simp [FS62_4_36, gotV]; omega)), fun h => absurd h (by decide)⟩ (Below.refl _ _)
      | 8, _ =>
       injection ho with ho
       subst ho
       clear hl
       simp only [fillA, List.take, List.drop, put_none, Act.put, List.setIfInBounds_toArray, List.set_cons_zero, List.set_cons_succ, Nat.reduceAdd]
       have f7 := hf 7 (by decide) (by kernel_rfl)
       generalize vals 7 = v7 at *
       subst f7
       clear hf
       go_wp2_with (fail)
       exact RQ.mk rfl ⟨(by first | rfl | (simp [FS62_4_36]; done) | (simp [FS62_4_36, *]; done) | (simp [FS62_4_36, gotV]; done) | (simp [FS62_4_36, gotV]; omega)), fun h => absurd h (by decide)⟩ (Below.refl _ _)
      | 9, _ =>
       injection ho with ho
       subst ho
       clear hl
       simp only [fillA, List.take, List.drop, put_none, Act.put, List.setIfInBounds_toArray, List.set_cons_zero, List.set_cons_succ, Nat.reduceAdd]
       have f8 := hf 8 (by decide) (by kernel_rfl)
       generalize vals 8 = v8 at *
       subst f8
       have f7 := hf 7 (by decide) (by kernel_rfl)
       generalize vals 7 = v7 at *
       subst f7
       clear hf
       go_wp2_with (fail)
       exact RQ.mk rfl ⟨(by first | rfl | (simp [FS62_4_36]; done) | (simp [FS62_4_36, *]; done) | (simp [FS62_4_36, gotV]; done) | (simp [FS62_4_36, gotV]; omega)), fun h => absurd h (by decide)⟩ (Below.refl _ _)
      | 10, _ =>
       injection ho with ho
       subst ho
       clear hl
       simp only [fillA, List.take, List.drop, put_none, Act.put, List.setIfInBounds_toArray, List.set_cons_zero, List.set_cons_succ, Nat.reduceAdd]
       have f9 := hf 9 (by decide) (by kernel_rfl)
       generalize vals 9 = v9 at *
       subst f9
       have f7 := hf 7 (by decide) (by kernel_rfl)
       generalize vals 7 = v7 at *
       subst f7
       clear hf
       go_wp2_with (fail)
       exact RQ.mk rfl ⟨(by first | rfl | (simp [FS62_4_36]; done) | (simp [FS62_4_36, *]; done) | (simp [FS62_4_36, gotV]; done) | (simp [FS62_4_36, gotV]; omega)), fun h => absurd h (by decide)⟩ (Below.refl _ _)
      | 11, _ =>
       injection ho with ho
       subst ho
       clear hl
       simp only [fillA, List.take, List.drop, put_none, Act.put, List.setIfInBounds_toArray, List.set_cons_zero, List.set_cons_succ, Nat.reduceAdd]
       have f10 := hf 10 (by decide) (by kernel_rfl)
       generalize vals 10 = v10 at *
       subst f10
       clear hf
       go_wp2_with (fail)
       exact RQ.mk rfl ⟨(by first | rfl | (simp [FS62_4_36]; done) | (simp [FS62_4_36, *]; done) | (simp [FS62_4_36, gotV]; done) | (simp [FS62_4_36, gotV]; omega)), fun h => absurd h (by decide)⟩ (Below.refl _ _)
      | 12, _ =>
       injection ho with ho
       subst ho
       clear hl
       simp only [fillA, List.take, List.drop, put_none, Act.put, List.setIfInBounds_toArray, List.set_cons_zero, List.set_cons_succ, Nat.reduceAdd]
       have f10 := hf 10 (by decide) (by kernel_rfl)
       generalize vals 10 = v10 at *
       subst f10
       clear hf
       go_wp2_with (fail)
       exact RQ.mk rfl ⟨(by first | rfl | (simp [FS62_4_36]; done) | (simp [FS62_4_36, *]; done) | (simp [FS62_4_36, gotV]; done) | (simp [FS62_4_36, gotV]; omega)), fun h => absurd h (by decide)⟩ (Below.refl _ _)
      | 13, _ =>
       injection ho with ho
       subst ho
       clear hl
       simp only [fillA, List.take, List.drop, put_none, Act.put, List.setIfInBounds_toArray, List.set_cons_zero, List.set_cons_succ, Nat.reduceAdd]
       have f12 := hf 12 (by decide) (by kernel_rfl)
       generalize vals 12 = v12 at *
       subst f12
       have f10 := hf 10 (by decide) (by kernel_rfl)
       generalize vals 10 = v10 at *
       subst f10
       clear hf
       go_wp2_with (fail)
       exact RQ.mk rfl ⟨(by first | rfl | (simp [FS62_4_36]; done) | (simp [FS62_4_36, *]; done) | (simp [FS62_4_36, gotV]; done) | (simp [FS62_4_36, gotV]; omega)), fun h => absurd h (by decide)⟩ (Below.refl _ _)
      | 14, _ =>
       injection ho with ho
       subst ho
       clear hl
       simp only [fillA, List.take, List.drop, put_none, Act.put, List.setIfInBounds_toArray, List.set_cons_zero, List.set_cons_succ, Nat.reduceAdd]
       have f11 := hf 11 (by decide) (by kernel_rfl)
       generalize vals 11 = v11 at *
       subst f11
       have f13 := hf 13 (by decide) (by kernel_rfl)
       generalize vals 13 = v13 at *
       subst f13
       have f10 := hf 10 (by decide) (by kernel_rfl)
       generalize vals 10 = v10 at *
       subst f10
       clear hf
       go_wp2_with (fail)
       exact RQ.mk rfl ⟨(by first | rfl | (simp [FS62_4_36]; done) | (simp [FS62_4_36, *]; done) | (simp [FS62_4_36, gotV]; done) | (simp [FS62_4_36, gotV]; omega)), fun h => absurd h (by decide)⟩ (Below.refl _ _)
      | 15, _ =>
       injection ho with ho
       subst ho
       clear hl
       simp only [fillA, List.take, List.drop, put_none, Act.put, List.setIfInBounds_toArray, List.set_cons_zero, List.set_cons_succ, Nat.reduceAdd]
       have f14 := hf 14 (by decide) (by kernel_rfl)
       generalize vals 14 = v14 at *
       subst f14
       have f10 := hf 10 (by decide) (by kernel_rfl)
       generalize vals 10 = v10 at *
       subst f10
       clear hf
       go_wp2_with (fail)
       exact RQ.mk rfl ⟨(by first | rfl | (simp [FS62_4_36]; done) | (simp [FS62_4_36, *]; done) | (simp [FS62_4_36, gotV]; done) | (simp [FS62_4_36, gotV]; omega)), fun h => absurd h (by decide)⟩ (Below.refl _ _)
      | 16, _ =>
       injection ho with ho
       subst ho
       clear hl
       simp only [fillA, List.take, List.drop, put_none, Act.put, List.setIfInBounds_toArray, List.set_cons_zero, List.set_cons_succ, Nat.reduceAdd]
       have f10 := hf 10 (by decide) (by kernel_rfl)
       generalize vals 10 = v10 at *
       subst f10
       clear hf
       go_wp2_with (fail)
       exact RQ.mk rfl ⟨(by first | rfl | (simp [FS62_4_36]; done) | (simp [FS62_4_36, *]; done) | (simp [FS62_4_36, gotV]; done) | (simp [FS62_4_36, gotV]; omega)), fun h => absurd h (by decide)⟩ (Below.refl _ _)
      | 17, _ =>
       injection ho with ho
       subst ho
       clear hl
       simp only [fillA, List.take, List.drop, put_none, Act.put, List.setIfInBounds_toArray, List.set_cons_zero, List.set_cons_succ, Nat.reduceAdd]
       have f16 := hf 16 (by decide) (by kernel_rfl)
       generalize vals 16 = v16 at *
       subst f16
       have f10 := hf 10 (by decide) (by kernel_rfl)
       generalize vals 10 = v10 at *
       subst f10
       clear hf
       go_wp2_with (fail)
       exact RQ.mk rfl ⟨(by first | rfl | (simp [FS62_4_36]; done) | (simp [FS62_4_36, *]; done) | (simp [FS62_4_36, gotV]; done) | (simp [FS62_4_36, gotV]; omega)), fun h => absurd h (by decide)⟩ (Below.refl _ _)
      | 18, _ =>
       injection ho with ho
       subst ho
       clear hl
       simp only [fillA, List.take, List.drop, put_none, Act.put, List.setIfInBounds_toArray, List.set_cons_zero, List.set_cons_succ, Nat.reduceAdd]
       have f15 := hf 15 (by decide) (by kernel_rfl)
       generalize vals 15 = v15 at *
       subst f15
       have f17 := hf 17 (by decide) (by kernel_rfl)
       generalize vals 17 = v17 at *
       subst f17
       have f10 := hf 10 (by decide) (by kernel_rfl)
       generalize vals 10 = v10 at *
       subst f10
       clear hf
       go_wp2_with (fail)
       exact RQ.mk rfl ⟨(by first | rfl | (simp [FS62_4_36]; done) | (simp [FS62_4_36, *]; done) | (simp [FS62_4_36, gotV]; done) | (simp [FS62_4_36, gotV]; omega)), fun h => absurd h (by decide)⟩ (Below.refl _ _)
      | 19, _ =>
       injection ho with ho
       subst ho
       clear hl
       simp only [fillA, List.take, List.drop, put_none, Act.put, List.setIfInBounds_toArray, List.set_cons_zero, List.set_cons_succ, Nat.reduceAdd]
       have f10 := hf 10 (by decide) (by kernel_rfl)
       generalize vals 10 = v10 at *
       subst f10
       clear hf
       go_wp2_with (fail)
       exact RQ.mk rfl ⟨(by first | rfl | (simp [FS62_4_36]; done) | (simp [FS62_4_36, *]; done) | (simp [FS62_4_36, gotV]; done) | (simp [FS62_4_36, gotV]; omega)), fun h => absurd h (by decide)⟩ (Below.refl _ _)
      | 20, _ =>
       injection ho with ho
       subst ho
       clear hl
       simp only [fillA, List.take, List.drop, put_none, Act.put, List.setIfInBounds_toArray, List.set_cons_zero, List.set_cons_succ, Nat.reduceAdd]
       have f10 := hf 10 (by decide) (by kernel_rfl)
       generalize vals 10 = v10 at *
       subst f10
       clear hf
       go_wp2_with (fail)
       exact RQ.mk rfl ⟨(by first | rfl | (simp [FS62_4_36]; done) | (simp [FS62_4_36, *]; done) | (simp [FS62_4_36, gotV]; done) | (simp [FS62_4_36, gotV]; omega)), fun h => absurd h (by decide)⟩ (Below.refl _ _)
      | 21, _ =>
       injection ho with ho
       subst ho
       clear hl
       simp only [fillA, List.take, List.drop, put_none, Act.put, List.setIfInBounds_toArray, List.set_cons_zero, List.set_cons_succ, Nat.reduceAdd]
       have f19 := hf 19 (by decide) (by kernel_rfl)
       generalize vals 19 = v19 at *
       subst f19
       have f20 := hf 20 (by decide) (by kernel_rfl)
       generalize vals 20 = v20 at *
       subst f20
       have f10 := hf 10 (by decide) (by kernel_rfl)
       generalize vals 10 = v10 at *
       subst f10
       clear hf
       go_wp2_with (fail)
       exact RQ.mk rfl ⟨(by first | rfl | (simp [FS62_4_36]; done) | (simp [FS62_4_36, *]; done) | (simp [FS62_4_36, gotV]; done) | (simp [FS62_4_36, gotV]; omega)), fun h => absurd h (by decide)⟩ (Below.refl _ _)
      | 22, _ =>
       injection ho with ho
       subst ho
       clear hl
       simp only [fillA, List.take, List.drop, put_none, Act.put, List.setIfInBounds_toArray, List.set_cons_zero, List.set_cons_succ, Nat.reduceAdd]
       have f21 := hf 21 (by decide) (by kernel_rfl)
       generalize vals 21 = v21 at *
       subst f21
       have f10 := hf 10 (by decide) (by kernel_rfl)
       generalize vals 10 = v10 at *
       subst f10
       clear hf
       go_wp2_with (fail)
       exact RQ.mk rfl ⟨(by first | rfl | (simp [FS62_4_36]; done) | (simp [FS62_4_36, *]; done) | (simp [FS62_4_36, gotV]; done) | (simp [FS62_4_36, gotV]; omega)), fun h => absurd h (by decide)⟩ (Below.refl _ _)
      | 23, _ =>
       injection ho with ho
       subst ho
       clear hl
       simp only [fillA, List.take, List.drop, put_none, Act.put, List.setIfInBounds_toArray, List.set_cons_zero, List.set_cons_succ, Nat.reduceAdd]
       have f18 := hf 18 (by decide) (by kernel_rfl)
       generalize vals 18 = v18 at *
       subst f18
       have f22 := hf 22 (by decide) (by kernel_rfl)
       generalize vals 22 = v22 at *
       subst f22
       have f10 := hf 10 (by decide) (by kernel_rfl)
       generalize vals 10 = v10 at *
       subst f10
       clear hf
       go_wp2_with (fail)
       exact RQ.mk rfl ⟨(by first | rfl | (simp [FS62_4_36]; done) | (simp [FS62_4_36, *]; done) | (simp [FS62_4_36, gotV]; done) | (simp [FS62_4_36, gotV]; omega)), fun h => absurd h (by decide)⟩ (Below.refl _ _)
      | 24, _ =>
       injection ho with ho
       subst ho
       clear hl
       simp only [fillA, List.take, List.drop, put_none, Act.put, List.setIfInBounds_toArray, List.set_cons_zero, List.set_cons_succ, Nat.reduceAdd]
       have f10 := hf 10 (by decide) (by kernel_rfl)
       generalize vals 10 = v10 at *
       subst f10
       have f23 := hf 23 (by decide) (by kernel_rfl)
       generalize vals 23 = v23 at *
       subst f23
       have f7 := hf 7 (by decide) (by kernel_rfl)
       generalize vals 7 = v7 at *
       subst f7
       clear hf
       go_wp2_with (fail)
       exact RQ.mk rfl ⟨(by first | rfl | (simp [FS62_4_36]; done) | (simp [FS62_4_36, *]; done) | (simp [FS62_4_36, gotV]; done) | (simp [FS62_4_36, gotV]; omega)), fun h => absurd h (by decide)⟩ (Below.refl _ _)
      | 25, _ =>
       injection ho with ho
       subst ho
       clear hl
       simp only [fillA, List.take, List.drop, put_none, Act.put, List.setIfInBounds_toArray, List.set_cons_zero, List.set_cons_succ, Nat.reduceAdd]
       have f7 := hf 7 (by decide) (by kernel_rfl)
       generalize vals 7 = v7 at *
       subst f7
       have f24 := hf 24 (by decide) (by kernel_rfl)
       generalize vals 24 = v24 at *
       subst f24
       clear hf
       go_wp2_with (fail)
       exact RQ.mk rfl ⟨(by first | rfl | (simp [FS62_4_36]; done) | (simp [FS62_4_36, *]; done) | (simp [FS62_4_36, gotV]; done) | (simp [FS62_4_36, gotV]; omega)), fun h => absurd h (by decide)⟩ (Below.refl _ _)
      | m + 26, h => exact absurd h (by omega)
     ·intro vals w1 hb1 hf hd
      simp only [fillA, List.take, List.drop, put_none, Act.put, List.setIfInBounds_toArray, List.set_cons_zero, List.set_cons_succ, Nat.reduceAdd]
      clear hd
      have f0 := hf 0 (by decide)
      generalize vals 0 = v0 at *
      subst f0
      have f1 := hf 1 (by decide)
      generalize vals 1 = v1 at *
      subst f1
      have f2 := hf 2 (by decide)
      generalize vals 2 = v2 at *
      subst f2
      have f3 := hf 3 (by decide)
      generalize vals 3 = v3 at *
      subst f3
      have f4 := hf 4 (by decide)
      generalize vals 4 = v4 at *
      subst f4
      have f5 := hf 5 (by decide)
      generalize vals 5 = v5 at *
      subst f5
      have f6 := hf 6 (by decide)
      generalize vals 6 = v6 at *
      subst f6
      have f7 := hf 7 (by decide)
      generalize vals 7 = v7 at *
      subst f7
      have f8 := hf 8 (by decide)
      generalize vals 8 = v8 at *
      subst f8
      have f9 := hf 9 (by decide)
      generalize vals 9 = v9 at *
      subst f9
      have f10 := hf 10 (by decide)
      generalize vals 10 = v10 at *
      subst f10
      have f11 := hf 11 (by decide)
      generalize vals 11 = v11 at *
      subst f11
      have f12 := hf 12 (by decide)
      generalize vals 12 = v12 at *
      subst f12
      have f13 := hf 13 (by decide)
      generalize vals 13 = v13 at *
      subst f13
      have f14 := hf 14 (by decide)
      generalize vals 14 = v14 at *
      subst f14
      have f15 := hf 15 (by decide)
      generalize vals 15 = v15 at *
      subst f15
      have f16 := hf 16 (by decide)
      generalize vals 16 = v16 at *
      subst f16
      have f17 := hf 17 (by decide)
      generalize vals 17 = v17 at *
      subst f17
      have f18 := hf 18 (by decide)
      generalize vals 18 = v18 at *
      subst f18
      have f19 := hf 19 (by decide)
      generalize vals 19 = v19 at *
      subst f19
      have f20 := hf 20 (by decide)
      generalize vals 20 = v20 at *
      subst f20
      have f21 := hf 21 (by decide)
      generalize vals 21 = v21 at *
      subst f21
      have f22 := hf 22 (by decide)
      generalize vals 22 = v22 at *
      subst f22
      have f23 := hf 23 (by decide)
      generalize vals 23 = v23 at *
      subst f23
      have f24 := hf 24 (by decide)
      generalize vals 24 = v24 at *
      subst f24
      have f25 := hf 25 (by decide)
      generalize vals 25 = v25 at *
      subst f25
      clear hf
      have hc1 := cellOf hb1
      have hf1 := frozOf hb1
      have hz1 := sizeOf hb1
      try simp at hz1
      go_wp2_with (fail)
      go_ret
      exact ⟨ret_bool (by rw [HB.out (by rw [HV.out, HG.out]; rfl)]), by (repeat' (first | exact Below.refl _ _ | assumption | refine Below.setCell ?_ ?_ _ | refine Below.drew ?_ | refine Below.alloc ?_ ?_ _ | refine Below.trans ?_ (Below.mono (by assumption) ?_) | (simp; done) | (simp; omega) | omega))⟩
    have HG := hid hg
    by_cases hl2 : y + d ≤ x
    rotate_left
    ·have H2 := hid (show gapLe d y x = false by simp [gapLe]; omega)
     go_wp2_with (fail)
     refine wp_region_w (n := 26) [] [] (FS62_4_37 d A xs x y bx ox k xs.length pl.length cap capp w) rfl (by kernel_rfl) (fun _ _ d _ _ h => by cases d <;> exact h) ?_ ?_ ?_ ?_ ?_ ?_
     ·intro iq
      match iq with
      | 0 | 1 | 2 | 3 | 4 | 5 | 6 | 7 | 8 | 9 | 10 | 11 | 12 | 13 | 14 | 15 | 16 | 17 | 18 | 19 | 20 | 21 | 22 | 23 | 24 | 25 => exact Stable.const _
      | n + 26 => exact Stable.const _
     ·intro iq hi
      exact absurd hi (by simp)
     ·intro iq hi
      exact absurd hi (by simp)
     ·intro iq o hi hl ho vals w1 hb1 hf
      exact absurd hl (by simp)
     ·intro iq o hi hl ho vals w1 hb1 hf
      match iq, hi with
      | 0, _ =>
       injection ho with ho
       subst ho
       clear hl
       simp only [fillA, List.take, List.drop, put_none, Act.put, List.setIfInBounds_toArray, List.set_cons_zero, List.set_cons_succ, Nat.reduceAdd]
       clear hf
       have hc1 := cellOf hb1
       have hf1 := frozOf hb1
       have hz1 := sizeOf hb1
       try simp at hz1
       go_wp2_with (fail)
       exact RQ.mk rfl ⟨(by first | rfl | (simp [FS62_4_37]; done) | (simp [FS62_4_37, *]; done) | (simp [FS62_4_37, gotV]; done) | (simp [FS62_4_37, gotV]; omega)), fun h => absurd h (by decide)⟩ (Below.refl _ _)
      | 1, _ =>
       injection ho with ho
       subst ho
       clear hl
       simp only [fillA, List.take, List.drop, put_none, Act.put, List.setIfInBounds_toArray, List.set_cons_zero, List.set_cons_succ, Nat.reduceAdd]
       clear hf
       go_wp2_with (fail)
       exact RQ.mk rfl ⟨(by first | rfl | (simp [FS62_4_37]; done) | (simp [FS62_4_37, *]; done) | (simp [FS62_4_37, gotV]; done) | (simp [FS62_4_37, gotV]; omega)), fun h => absurd h (by decide)⟩ (Below.refl _ _)
      | 2, _ =>
       injection ho with ho
       subst ho
       clear hl
       simp only [fillA, List.take, List.drop, put_none, Act.put, List.setIfInBounds_toArray, List.set_cons_zero, List.set_cons_succ, Nat.reduceAdd]
       clear hf
       go_wp2_with (fail)
       exact RQ.mk rfl ⟨(by first | rfl | (simp [FS62_4_37]; done) | (simp [FS62_4_37, *]; done) | (simp [FS62_4_37, gotV]; done) | (simp [FS62_4_37, gotV]; omega)), fun h => absurd h (by decide)⟩ (Below.refl _ _)
      | 3, _ =>
       injection ho with ho
       subst ho
       clear hl
       simp only [fillA, List.take, List.drop, put_none, Act.put, List.setIfInBounds_toArray, List.set_cons_zero, List.set_cons_succ, Nat.reduceAdd]
       have f1 := hf 1 (by decide) (by kernel_rfl)
       generalize vals 1 = v1 at *
       subst f1
       have f2 := hf 2 (by decide) (by kernel_rfl)
       generalize vals 2 = v2 at *
       subst f2
       clear hf
       go_wp2_with (fail)
       exact RQ.mk rfl ⟨(by first | rfl | (simp [FS62_4_37]; done) | (simp [FS62_4_37, *]; done) | (simp [FS62_4_37, gotV]; done) | (simp [FS62_4_37, gotV]; omega)), fun h => absurd h (by decide)⟩ (Below.refl _ _)
      | 4, _ =>
       injection ho with ho
       subst ho
       clear hl
       simp only [fillA, List.take, List.drop, put_none, Act.put, List.setIfInBounds_toArray, List.set_cons_zero, List.set_cons_succ, Nat.reduceAdd]
       have f3 := hf 3 (by decide) (by kernel_rfl)
       generalize vals 3 = v3 at *
       subst f3
       clear hf
       have hc1 := cellOf hb1
       have hf1 := frozOf hb1
       have hz1 := sizeOf hb1
       try simp at hz1
       go_wp2_with (fail)
       exact RQ.mk rfl ⟨(by first | rfl | (simp [FS62_4_37]; done) | (simp [FS62_4_37, *]; done) | (simp [FS62_4_37, gotV]; done) | (simp [FS62_4_37, gotV]; omega)), fun h => absurd h (by decide)⟩ (Below.refl _ _)
      | 5, _ =>
       injection ho with ho
       subst ho
       clear hl
       simp only [fillA, List.take, List.drop, put_none, Act.put, List.setIfInBounds_toArray, List.set_cons_zero, List.set_cons_succ, Nat.reduceAdd]
       have f0 := hf 0 (by decide) (by kernel_rfl)
       generalize vals 0 = v0 at *
       subst f0
       have f4 := hf 4 (by decide) (by kernel_rfl)
       generalize vals 4 = v4 at *
       subst f4
       clear hf
       have hc1 := cellOf hb1
       have hf1 := frozOf hb1
       have hz1 := sizeOf hb1
       try simp at hz1
       go_wp2_with (first | (go_at_call 56; refine (c_spec_l15May _ _ _ _ _ _ _ (by first | assumption | exact Rds.below hx (by (repeat' (first | exact Below.refl _ _ | assumption | refine Below.setCell ?_ ?_ _ | refine Below.drew ?_ | refine Below.alloc ?_ ?_ _ | refine Below.trans ?_ (Below.mono (by assumption) ?_) | (simp; done) | (simp; omega) | omega)))) rfl (by omega) hok (by omega)).mono ?_; rintro e w' ⟨rfl, hb⟩; have hc := cellOf hb; have hf := frozOf hb; have hz := sizeOf hb; try simp at hz))
       exact RQ.mk rfl ⟨(by first | rfl | (simp [FS62_4_37]; done) | (simp [FS62_4_37, *]; done) | (simp [FS62_4_37, gotV]; done) | (simp [FS62_4_37, gotV]; omega)), fun h => absurd h (by decide)⟩ (by (repeat' (first | exact Below.refl _ _ | assumption | refine Below.setCell ?_ ?_ _ | refine Below.drew ?_ | refine Below.alloc ?_ ?_ _ | refine Below.trans ?_ (Below.mono (by assumption) ?_) | (simp; done) | (simp; omega) | omega)))
      | 6, _ =>
       injection ho with ho
       subst ho
       clear hl
       simp only [fillA, List.take, List.drop, put_none, Act.put, List.setIfInBounds_toArray, List.set_cons_zero, List.set_cons_succ, Nat.reduceAdd]
       have f5 := hf 5 (by decide) (by kernel_rfl)
       generalize vals 5 = v5 at *
       subst f5
       clear hf
       go_wp2_with (fail)
       exact RQ.mk rfl ⟨(by first | rfl | (simp [FS62_4_37]; done) | (simp [FS62_4_37, *]; done) | (simp [FS62_4_37, gotV]; done) | (simp [FS62_4_37, gotV]; omega)), fun h => absurd h (by decide)⟩ (Below.refl _ _)
      | 7, _ =>
       injection ho with ho
       subst ho
       clear hl
       simp only [fillA, List.take, List.drop, put_none, Act.put, List.setIfInBounds_toArray, List.set_cons_zero, List.set_cons_succ, Nat.reduceAdd]
       have f6 := hf 6 (by decide) (by kernel_rfl)
       generalize vals 6 = v6 at *
       subst f6
       have f5 := hf 5 (by decide) (by kernel_rfl)
       generalize vals 5 = v5 at *
       subst f5
       clear hf
       go_wp2_with (fail)
       exact RQ.mk rfl ⟨(by first | rfl | (simp [FS62_4_37]; done) | (simp [FS62_4_37, *]; done) | (simp [FS62_4_37, gotV]; done) | (simp [FS62_4_37, gotV]; omega)), fun h => absurd h (by decide)⟩ (Below.refl _ _)
      | 8, _ =>
       injection ho with ho
       subst ho
       clear hl
       simp only [fillA, List.take, List.drop, put_none, Act.put, List.setIfInBounds_toArray, List.set_cons_zero, List.set_cons_succ, Nat.reduceAdd]
       have f7 := hf 7 (by decide) (by kernel_rfl)
       generalize vals 7 = v7 at *
       subst f7
       clear hf
       go_wp2_with (fail)
       exact RQ.mk rfl ⟨(by first | rfl | (simp [FS62_4_37]; done) | (simp [FS62_4_37, *]; done) | (simp [FS62_4_37, gotV]; done) | (simp [FS62_4_37, gotV]; omega)), fun h => absurd h (by decide)⟩ (Below.refl _ _)
      | 9, _ =>
       injection ho with ho
       subst ho
       clear hl
       simp only [fillA, List.take, List.drop, put_none, Act.put, List.setIfInBounds_toArray, List.set_cons_zero, List.set_cons_succ, Nat.reduceAdd]
       have f8 := hf 8 (by decide) (by kernel_rfl)
       generalize vals 8 = v8 at *
       subst f8
       have f7 := hf 7 (by decide) (by kernel_rfl)
       generalize vals 7 = v7 at *
       subst f7
       clear hf
       go_wp2_with (fail)
       exact RQ.mk rfl ⟨(by first | rfl | (simp [FS62_4_37]; done) | (simp [FS62_4_37, *]; done) | (simp [FS62_4_37, gotV]; done) | (simp [FS62_4_37, gotV]; omega)), fun h => absurd h (by decide)⟩ (Below.refl _ _)
      | 10, _ =>
       injection ho with ho
       subst ho
       clear hl
       simp only [fillA, List.take, List.drop, put_none, Act.put, List.setIfInBounds_toArray, List.set_cons_zero, List.set_cons_succ, Nat.reduceAdd]
       have f9 := hf 9 (by decide) (by kernel_rfl)
       generalize vals 9 = v9 at *
       subst f9
       have f7 := hf 7 (by decide) (by kernel_rfl)
       generalize vals 7 = v7 at *
       subst f7
       clear hf
       go_wp2_with (fail)
       exact RQ.mk rfl ⟨(by first | rfl | (simp [FS62_4_37]; done) | (simp [FS62_4_37, *]; done) | (simp [FS62_4_37, gotV]; done) | (simp [FS62_4_37, gotV]; omega)), fun h => absurd h (by decide)⟩ (Below.refl _ _)
      | 11, _ =>
       injection ho with ho
       subst ho
       clear hl
       simp only [fillA, List.take, List.drop, put_none, Act.put, List.setIfInBounds_toArray, List.set_cons_zero, List.set_cons_succ, Nat.reduceAdd]
       have f10 := hf 10 (by decide) (by kernel_rfl)
       generalize vals 10 = v10 at *
       subst f10
       clear hf
       go_wp2_with (fail)
       exact RQ.mk rfl ⟨(by first | rfl | (simp [FS62_4_37]; done) | (simp [FS62_4_37, *]; done) | (simp [FS62_4_37, gotV]; done) | (simp [FS62_4_37, gotV]; omega)), fun h => absurd h (by decide)⟩ (Below.refl _ _)
      | 12, _ =>
       injection ho with ho
       subst ho
       clear hl
       simp only [fillA, List.take, List.drop, put_none, Act.put, List.setIfInBounds_toArray, List.set_cons_zero, List.set_cons_succ, Nat.reduceAdd]
       have f10 := hf 10 (by decide) (by kernel_rfl)
       generalize vals 10 = v10 at *
       subst f10
       clear hf
       go_wp2_with (fail)
       exact RQ.mk rfl ⟨(by first | rfl | (simp [FS62_4_37]; done) | (simp [FS62_4_37, *]; done) | (simp [FS62_4_37, gotV]; done) | (simp [FS62_4_37, gotV]; omega)), fun h => absurd h (by decide)⟩ (Below.refl _ _)
      | 13, _ =>
       injection ho with ho
       subst ho
       clear hl
       simp only [fillA, List.take, List.drop, put_none, Act.put, List.setIfInBounds_toArray, List.set_cons_zero, List.set_cons_succ, Nat.reduceAdd]
       have f12 := hf 12 (by decide) (by kernel_rfl)
       generalize vals 12 = v12 at *
       subst f12
       have f10 := hf 10 (by decide) (by kernel_rfl)
       generalize vals 10 = v10 at *
       subst f10
       clear hf
       go_wp2_with (fail)
       exact RQ.mk rfl ⟨(by first | rfl | (simp [FS62_4_37]; done) | (simp [FS62_4_37, *]; done) | (simp [FS62_4_37, gotV]; done) | (simp [FS62_4_37, gotV]; omega)), fun h => absurd h (by decide)⟩ (Below.refl _ _)
      | 14, _ =>
       injection ho with ho
       subst ho
       clear hl
       simp only [fillA, List.take, List.drop, put_none, Act.put, List.setIfInBounds_toArray, List.set_cons_zero, List.set_cons_succ, Nat.reduceAdd]
       have f11 := hf 11 (by decide) (by kernel_rfl)
       generalize vals 11 = v11 at *
       subst f11
       have f13 := hf 13 (by decide) (by kernel_rfl)
       generalize vals 13 = v13 at *
       subst f13
       have f10 := hf 10 (by decide) (by kernel_rfl)
       generalize vals 10 = v10 at *
       subst f10
       clear hf
       go_wp2_with (fail)
       exact RQ.mk rfl ⟨(by first | rfl | (simp [FS62_4_37]; done) | (simp [FS62_4_37, *]; done) | (simp [FS62_4_37, gotV]; done) | (simp [FS62_4_37, gotV]; omega)), fun h => absurd h (by decide)⟩ (Below.refl _ _)
      | 15, _ =>
       injection ho with ho
       subst ho
       clear hl
       simp only [fillA, List.take, List.drop, put_none, Act.put, List.setIfInBounds_toArray, List.set_cons_zero, List.set_cons_succ, Nat.reduceAdd]
       have f14 := hf 14 (by decide) (by kernel_rfl)
       generalize vals 14 = v14 at *
       subst f14
       have f10 := hf 10 (by decide) (by kernel_rfl)
       generalize vals 10 = v10 at *
       subst f10
       clear hf
       have hc1 := cellOf hb1
       have hf1 := frozOf hb1
       have hz1 := sizeOf hb1
       try simp at hz1
       go_wp2_with (fail)
       exact RQ.mk rfl ⟨(by first | rfl | (simp [FS62_4_37]; done) | (simp [FS62_4_37, *]; done) | (simp [FS62_4_37, gotV]; done) | (simp [FS62_4_37, gotV]; omega)), fun h => absurd h (by decide)⟩ (Below.refl _ _)
      | 16, _ =>
       injection ho with ho
       subst ho
       clear hl
       simp only [fillA, List.take, List.drop, put_none, Act.put, List.setIfInBounds_toArray, List.set_cons_zero, List.set_cons_succ, Nat.reduceAdd]
       have f10 := hf 10 (by decide) (by kernel_rfl)
       generalize vals 10 = v10 at *
       subst f10
       clear hf
       go_wp2_with (fail)
       exact RQ.mk rfl ⟨(by first | rfl | (simp [FS62_4_37]; done) | (simp [FS62_4_37, *]; done) | (simp [FS62_4_37, gotV]; done) | (simp [FS62_4_37, gotV]; omega)), fun h => absurd h (by decide)⟩ (Below.refl _ _)
      | 17, _ =>
       injection ho with ho
       subst ho
       clear hl
       simp only [fillA, List.take, List.drop, put_none, Act.put, List.setIfInBounds_toArray, List.set_cons_zero, List.set_cons_succ, Nat.reduceAdd]
       have f16 := hf 16 (by decide) (by kernel_rfl)
       generalize vals 16 = v16 at *
       subst f16
       have f10 := hf 10 (by decide) (by kernel_rfl)
       generalize vals 10 = v10 at *
       subst f10
       clear hf
       have hc1 := cellOf hb1
       have hf1 := frozOf hb1
       have hz1 := sizeOf hb1
       try simp at hz1
       go_wp2_with (fail)
       exact RQ.mk rfl ⟨(by first | rfl | (simp [FS62_4_37]; done) | (simp [FS62_4_37, *]; done) | (simp [FS62_4_37, gotV]; done) | (simp [FS62_4_37, gotV]; omega)), fun h => absurd h (by decide)⟩ (Below.refl _ _)
      | 18, _ =>
       injection ho with ho
       subst ho
       clear hl
       simp only [fillA, List.take, List.drop, put_none, Act.put, List.setIfInBounds_toArray, List.set_cons_zero, List.set_cons_succ, Nat.reduceAdd]
       have f15 := hf 15 (by decide) (by kernel_rfl)
       generalize vals 15 = v15 at *
       subst f15
       have f17 := hf 17 (by decide) (by kernel_rfl)
       generalize vals 17 = v17 at *
       subst f17
       have f10 := hf 10 (by decide) (by kernel_rfl)
       generalize vals 10 = v10 at *
       subst f10
       clear hf
       go_wp2_with (fail)
       exact RQ.mk rfl ⟨(by first | rfl | (simp [FS62_4_37]; done) | (simp [FS62_4_37, *]; done) | (simp [FS62_4_37, gotV]; done) | (simp [FS62_4_37, gotV]; omega)), fun h => absurd h (by decide)⟩ (Below.refl _ _)
      | 19, _ =>
       injection ho with ho
       subst ho
       clear hl
       simp only [fillA, List.take, List.drop, put_none, Act.put, List.setIfInBounds_toArray, List.set_cons_zero, List.set_cons_succ, Nat.reduceAdd]
       have f10 := hf 10 (by decide) (by kernel_rfl)
       generalize vals 10 = v10 at *
       subst f10
       clear hf
       go_wp2_with (fail)
       exact RQ.mk rfl ⟨(by first | rfl | (simp [FS62_4_37]; done) | (simp [FS62_4_37, *]; done) | (simp [FS62_4_37, gotV]; done) | (simp [FS62_4_37, gotV]; omega)), fun h => absurd h (by decide)⟩ (Below.refl _ _)
      | 20, _ =>
       injection ho with ho
       subst ho
       clear hl
       simp only [fillA, List.take, List.drop, put_none, Act.put, List.setIfInBounds_toArray, List.set_cons_zero, List.set_cons_succ, Nat.reduceAdd]
       have f10 := hf 10 (by decide) (by kernel_rfl)
       generalize vals 10 = v10 at *
       subst f10
       clear hf
       go_wp2_with (fail)
       exact RQ.mk rfl ⟨(by first | rfl | (simp [FS62_4_37]; done) | (simp [FS62_4_37, *]; done) | (simp [FS62_4_37, gotV]; done) | (simp [FS62_4_37, gotV]; omega)), fun h => absurd h (by decide)⟩ (Below.refl _ _)
      | 21, _ =>
       injection ho with ho
       subst ho
       clear hl
       simp only [fillA, List.take, List.drop, put_none, Act.put, List.setIfInBounds_toArray, List.set_cons_zero, List.set_cons_succ, Nat.reduceAdd]
       have f19 := hf 19 (by decide) (by kernel_rfl)
       generalize vals 19 = v19 at *
       subst f19
       have f20 := hf 20 (by decide) (by kernel_rfl)
       generalize vals 20 = v20 at *
       subst f20
       have f10 := hf 10 (by decide) (by kernel_rfl)
       generalize vals 10 = v10 at *
       subst f10
       clear hf
       go_wp2_with (fail)
       exact RQ.mk rfl ⟨(by first | rfl | (simp [FS62_4_37]; done) | (simp [FS62_4_37, *]; done) | (simp [FS62_4_37, gotV]; done) | (simp [FS62_4_37, gotV]; omega)), fun h => absurd h (by decide)⟩ (Below.refl _ _)
      | 22, _ =>
       injection ho with ho
       subst ho
       clear hl
       simp only [fillA, List.take, List.drop, put_none, Act.put, List.setIfInBounds_toArray, List.set_cons_zero, List.set_cons_succ, Nat.reduceAdd]
       have f21 := hf 21 (by decide) (by kernel_rfl)
       generalize vals 21 = v21 at *
       subst f21
       have f10 := hf 10 (by decide) (by kernel_rfl)
       generalize vals 10 = v10 at *
       subst f10
       clear hf
       have hc1 := cellOf hb1
       have hf1 := frozOf hb1
       have hz1 := sizeOf hb1
       try simp at hz1
       go_wp2_with (fail)
       exact RQ.mk rfl ⟨(by first | rfl | (simp [FS62_4_37]; done) | (simp [FS62_4_37, *]; done) | (simp [FS62_4_37, gotV]; done) | (simp [FS62_4_37, gotV]; omega)), fun h => absurd h (by decide)⟩ (Below.refl _ _)
      | 23, _ =>
       injection ho with ho
       subst ho
       clear hl
       simp only [fillA, List.take, List.drop, put_none, Act.put, List.setIfInBounds_toArray, List.set_cons_zero, List.set_cons_succ, Nat.reduceAdd]
       have f18 := hf 18 (by decide) (by kernel_rfl)
       generalize vals 18 = v18 at *
       subst f18
       have f22 := hf 22 (by decide) (by kernel_rfl)
       generalize vals 22 = v22 at *
       subst f22
       have f10 := hf 10 (by decide) (by kernel_rfl)
       generalize vals 10 = v10 at *
       subst f10
       clear hf
       go_wp2_with (fail)
       exact RQ.mk rfl ⟨(by first | rfl | (simp [FS62_4_37]; done) | (simp [FS62_4_37, *]; done) | (simp [FS62_4_37, gotV]; done) | (simp [FS62_4_37, gotV]; omega)), fun h => absurd h (by decide)⟩ (Below.refl _ _)
      | 24, _ =>
       injection ho with ho
       subst ho
       clear hl
       simp only [fillA, List.take, List.drop, put_none, Act.put, List.setIfInBounds_toArray, List.set_cons_zero, List.set_cons_succ, Nat.reduceAdd]
       have f10 := hf 10 (by decide) (by kernel_rfl)
       generalize vals 10 = v10 at *
       subst f10
       have f23 := hf 23 (by decide) (by kernel_rfl)
       generalize vals 23 = v23 at *
       subst f23
       have f7 := hf 7 (by decide) (by kernel_rfl)
       generalize vals 7 = v7 at *
       subst f7
       clear hf
       go_wp2_with (fail)
       exact RQ.mk rfl ⟨(by first | rfl | (simp [FS62_4_37]; done) | (simp [FS62_4_37, *]; done) | (simp [FS62_4_37, gotV]; done) | (simp [FS62_4_37, gotV]; omega)), fun h => absurd h (by decide)⟩ (Below.refl _ _)
      | 25, _ =>
       injection ho with ho
       subst ho
       clear hl
       simp only [fillA, List.take, List.drop, put_none, Act.put, List.setIfInBounds_toArray, List.set_cons_zero, List.set_cons_succ, Nat.reduceAdd]
       have f7 := hf 7 (by decide) (by kernel_rfl)
       generalize vals 7 = v7 at *
       subst f7
       have f24 := hf 24 (by decide) (by kernel_rfl)
       generalize vals 24 = v24 at *
       subst f24
       clear hf
       go_wp2_with (fail)
       exact RQ.mk rfl ⟨(by first | rfl | (simp [FS62_4_37]; done) | (simp [FS62_4_37, *]; done) | (simp [FS62_4_37, gotV]; done) | (simp [FS62_4_37, gotV]; omega)), fun h => absurd h (by decide)⟩ (Below.refl _ _)
      | m + 26, h => exact absurd h (by omega)
     ·intro vals w1 hb1 hf hd
      simp only [fillA, List.take, List.drop, put_none, Act.put, List.setIfInBounds_toArray, List.set_cons_zero, List.set_cons_succ, Nat.reduceAdd]
      clear hd
      have f0 := hf 0 (by decide)
      generalize vals 0 = v0 at *
      subst f0
      have f1 := hf 1 (by decide)
      generalize vals 1 = v1 at *
      subst f1
      have f2 := hf 2 (by decide)
      generalize vals 2 = v2 at *
      subst f2
      have f3 := hf 3 (by decide)
      generalize vals 3 = v3 at *
      subst f3
      have f4 := hf 4 (by decide)
      generalize vals 4 = v4 at *
      subst f4
      have f5 := hf 5 (by decide)
      generalize vals 5 = v5 at *
      subst f5
      have f6 := hf 6 (by decide)
      generalize vals 6 = v6 at *
      subst f6
      have f7 := hf 7 (by decide)
      generalize vals 7 = v7 at *
      subst f7
      have f8 := hf 8 (by decide)
      generalize vals 8 = v8 at *
      subst f8
      have f9 := hf 9 (by decide)
      generalize vals 9 = v9 at *
      subst f9
      have f10 := hf 10 (by decide)
      generalize vals 10 = v10 at *
      subst f10
      have f11 := hf 11 (by decide)
      generalize vals 11 = v11 at *
      subst f11
      have f12 := hf 12 (by decide)
      generalize vals 12 = v12 at *
      subst f12
      have f13 := hf 13 (by decide)
      generalize vals 13 = v13 at *
      subst f13
      have f14 := hf 14 (by decide)
      generalize vals 14 = v14 at *
      subst f14
      have f15 := hf 15 (by decide)
      generalize vals 15 = v15 at *
      subst f15
      have f16 := hf 16 (by decide)
      generalize vals 16 = v16 at *
      subst f16
      have f17 := hf 17 (by decide)
      generalize vals 17 = v17 at *
      subst f17
      have f18 := hf 18 (by decide)
      generalize vals 18 = v18 at *
      subst f18
      have f19 := hf 19 (by decide)
      generalize vals 19 = v19 at *
      subst f19
      have f20 := hf 20 (by decide)
      generalize vals 20 = v20 at *
      subst f20
      have f21 := hf 21 (by decide)
      generalize vals 21 = v21 at *
      subst f21
      have f22 := hf 22 (by decide)
      generalize vals 22 = v22 at *
      subst f22
      have f23 := hf 23 (by decide)
      generalize vals 23 = v23 at *
      subst f23
      have f24 := hf 24 (by decide)
      generalize vals 24 = v24 at *
      subst f24
      have f25 := hf 25 (by decide)
      generalize vals 25 = v25 at *
      subst f25
      clear hf
      have hc1 := cellOf hb1
      have hf1 := frozOf hb1
      have hz1 := sizeOf hb1
      try simp at hz1
      go_wp2_with (fail)
      go_ret
      exact ⟨ret_bool (by rw [HB.out (by rw [HV.out, HG.out, H2.out]; rfl)]), by (repeat' (first | exact Below.refl _ _ | assumption | refine Below.setCell ?_ ?_ _ | refine Below.drew ?_ | refine Below.alloc ?_ ?_ _ | refine Below.trans ?_ (Below.mono (by assumption) ?_) | (simp; done) | (simp; omega) | omega))⟩
    ·have H2 := hid (show gapLe d y x = true by simp [gapLe]; omega)
     go_wp2_with (fail)
     refine wp_region_w (n := 26) [] [] (FS62_4_38 d A xs x y bx ox k xs.length pl.length cap capp w) rfl (by kernel_rfl) (fun _ _ d _ _ h => by cases d <;> exact h) ?_ ?_ ?_ ?_ ?_ ?_
     ·intro iq
      match iq with
      | 0 | 1 | 2 | 3 | 4 | 5 | 6 | 7 | 8 | 9 | 10 | 11 | 12 | 13 | 14 | 15 | 16 | 17 | 18 | 19 | 20 | 21 | 22 | 23 | 24 | 25 => exact Stable.const _
      | n + 26 => exact Stable.const _
     ·intro iq hi
      exact absurd hi (by simp)
     ·intro iq hi
      exact absurd hi (by simp)
     ·intro iq o hi hl ho vals w1 hb1 hf
      exact absurd hl (by simp)
     ·intro iq o hi hl ho vals w1 hb1 hf
      match iq, hi with
      | 0, _ =>
       injection ho with ho
       subst ho
       clear hl
       simp only [fillA, List.take, List.drop, put_none, Act.put, List.setIfInBounds_toArray, List.set_cons_zero, List.set_cons_succ, Nat.reduceAdd]
       clear hf
       have hc1 := cellOf hb1
       have hf1 := frozOf hb1
       have hz1 := sizeOf hb1
       try simp at hz1
       go_wp2_with (fail)
       exact RQ.mk rfl ⟨(by first | rfl | (simp [FS62_4_38]; done) | (simp [FS62_4_38, *]; done) | (simp [FS62_4_38, gotV]; done) | (simp [FS62_4_38, gotV]; omega)), fun h => absurd h (by decide)⟩ (Below.refl _ _)
      | 1, _ =>
       injection ho with ho
       subst ho
       clear hl
       simp only [fillA, List.take, List.drop, put_none, Act.put, List.setIfInBounds_toArray, List.set_cons_zero, List.set_cons_succ, Nat.reduceAdd]
       clear hf
       go_wp2_with (fail)
       exact RQ.mk rfl ⟨(by first | rfl | (simp [FS62_4_38]; done) | (simp [FS62_4_38, *]; done) | (simp [FS62_4_38, gotV]; done) | (simp [FS62_4_38, gotV]; omega)), fun h => absurd h (by decide)⟩ (Below.refl _ _)
      | 2, _ =>
       injection ho with ho
       subst ho
       clear hl
       simp only [fillA, List.take, List.drop, put_none, Act.put, List.setIfInBounds_toArray, List.set_cons_zero, List.set_cons_succ, Nat.reduceAdd]
       clear hf
       go_wp2_with (fail)
       exact RQ.mk rfl ⟨(by first | rfl | (simp [FS62_4_38]; done) | (simp [FS62_4_38, *]; done) | (simp [FS62_4_38, gotV]; done) | (simp [FS62_4_38, gotV]; omega)), fun h => absurd h (by decide)⟩ (Below.refl _ _)
      | 3, _ =>
       injection ho with ho
       subst ho
       clear hl
       simp only [fillA, List.take, List.drop, put_none, Act.put, List.setIfInBounds_toArray, List.set_cons_zero, List.set_cons_succ, Nat.reduceAdd]
       have f1 := hf 1 (by decide) (by kernel_rfl)
       generalize vals 1 = v1 at *
       subst f1
       have f2 := hf 2 (by decide) (by kernel_rfl)
       generalize vals 2 = v2 at *
       subst f2
       clear hf
       go_wp2_with (fail)
       exact RQ.mk rfl ⟨(by first | rfl | (simp [FS62_4_38]; done) | (simp [FS62_4_38, *]; done) | (simp [FS62_4_38, gotV]; done) | (simp [FS62_4_38, gotV]; omega)), fun h => absurd h (by decide)⟩ (Below.refl _ _)
      | 4, _ =>
       injection ho with ho
       subst ho
       clear hl
       simp only [fillA, List.take, List.drop, put_none, Act.put, List.setIfInBounds_toArray, List.set_cons_zero, List.set_cons_succ, Nat.reduceAdd]
       have f3 := hf 3 (by decide) (by kernel_rfl)
       generalize vals 3 = v3 at *
       subst f3
       clear hf
       have hc1 := cellOf hb1
       have hf1 := frozOf hb1
       have hz1 := sizeOf hb1
       try simp at hz1
       go_wp2_with (fail)
       exact RQ.mk rfl ⟨(by first | rfl | (simp [FS62_4_38]; done) | (simp [FS62_4_38, *]; done) | (simp [FS62_4_38, gotV]; done) | (simp [FS62_4_38, gotV]; omega)), fun h => absurd h (by decide)⟩ (Below.refl _ _)
      | 5, _ =>
       injection ho with ho
       subst ho
       clear hl
       simp only [fillA, List.take, List.drop, put_none, Act.put, List.setIfInBounds_toArray, List.set_cons_zero, List.set_cons_succ, Nat.reduceAdd]
       have f0 := hf 0 (by decide) (by kernel_rfl)
       generalize vals 0 = v0 at *
       subst f0
       have f4 := hf 4 (by decide) (by kernel_rfl)
       generalize vals 4 = v4 at *
       subst f4
       clear hf
       have hc1 := cellOf hb1
       have hf1 := frozOf hb1
       have hz1 := sizeOf hb1
       try simp at hz1
       go_wp2_with (first | (go_at_call 56; refine (c_spec_l15May _ _ _ _ _ _ _ (by first | assumption | exact Rds.below hx (by (repeat' (first | exact Below.refl _ _ | assumption | refine Below.setCell ?_ ?_ _ | refine Below.drew ?_ | refine Below.alloc ?_ ?_ _ | refine Below.trans ?_ (Below.mono (by assumption) ?_) | (simp; done) | (simp; omega) | omega)))) rfl (by omega) hok (by omega)).mono ?_; rintro e w' ⟨rfl, hb⟩; have hc := cellOf hb; have hf := frozOf hb; have hz := sizeOf hb; try simp at hz))
       exact RQ.mk rfl ⟨(by first | rfl | (simp [FS62_4_38]; done) | (simp [FS62_4_38, *]; done) | (simp [FS62_4_38, gotV]; done) | (simp [FS62_4_38, gotV]; omega)), fun h => absurd h (by decide)⟩ (by (repeat' (first | exact Below.refl _ _ | assumption | refine Below.setCell ?_ ?_ _ | refine Below.drew ?_ | refine Below.alloc ?_ ?_ _ | refine Below.trans ?_ (Below.mono (by assumption) ?_) | (simp; done) | (simp; omega) | omega)))
      | 6, _ =>
       injection ho with ho
       subst ho
       clear hl
       simp only [fillA, List.take, List.drop, put_none, Act.put, List.setIfInBounds_toArray, List.set_cons_zero, List.set_cons_succ, Nat.reduceAdd]
       have f5 := hf 5 (by decide) (by kernel_rfl)
       generalize vals 5 = v5 at *
       subst f5
       clear hf
       go_wp2_with (fail)
       exact RQ.mk rfl ⟨(by first | rfl | (simp [FS62_4_38]; done) | (simp [FS62_4_38, *]; done) | (simp [FS62_4_38, gotV]; done) | (simp [FS62_4_38, gotV]; omega)), fun h => absurd h (by decide)⟩ (Below.refl _ _)
      | 7, _ =>
       injection ho with ho
       subst ho
       clear hl
       simp only [fillA, List.take, List.drop, put_none, Act.put, List.setIfInBounds_toArray, List.set_cons_zero, List.set_cons_succ, Nat.reduceAdd]
       have f6 := hf 6 (by decide) (by kernel_rfl)
       generalize vals 6 = v6 at *
       subst f6
       have f5 := hf 5 (by decide) (by kernel_rfl)
       generalize vals 5 = v5 at *
       subst f5
       clear hf
       go_wp2_with (fail)
       exact RQ.mk rfl ⟨(by first | rfl | (simp [FS62_4_38]; done) | (simp [FS62_4_38, *]; done) | (simp [FS62_4_38, gotV]; done) | (simp [FS62_4_38, gotV]; omega)), fun h => absurd h (by decide)⟩ (Below.refl _ _)
      | 8, _ =>
       injection ho with ho
       subst ho
       clear hl
       simp only [fillA, List.take, List.drop, put_none, Act.put, List.setIfInBounds_toArray, List.set_cons_zero, List.set_cons_succ, Nat.reduceAdd]
       have f7 := hf 7 (by decide) (by kernel_rfl)
       generalize vals 7 = v7 at *
       subst f7
       clear hf
       go_wp2_with (fail)
       exact RQ.mk rfl ⟨(by first | rfl | (simp [FS62_4_38]; done) | (simp [FS62_4_38, *]; done) | (simp [FS62_4_38, gotV]; done) | (simp [FS62_4_38, gotV]; omega)), fun h => absurd h (by decide)⟩ (Below.refl _ _)
      | 9, _ =>
       injection ho with ho
       subst ho
       clear hl
       simp only [fillA, List.take, List.drop, put_none, Act.put, List.setIfInBounds_toArray, List.set_cons_zero, List.set_cons_succ, Nat.reduceAdd]
       have f8 := hf 8 (by decide) (by kernel_rfl)
       generalize vals 8 = v8 at *
       subst f8
       have f7 := hf 7 (by decide) (by kernel_rfl)
       generalize vals 7 = v7 at *
       subst f7
       clear hf
       go_wp2_with (fail)
       exact RQ.mk rfl ⟨(by first | rfl | (simp [FS62_4_38]; done) | (simp [FS62_4_38, *]; done) | (simp [FS62_4_38, gotV]; done) | (simp [FS62_4_38, gotV]; omega)), fun h => absurd h (by decide)⟩ (Below.refl _ _)
      | 10, _ =>
       injection ho with ho
       subst ho
       clear hl
       simp only [fillA, List.take, List.drop, put_none, Act.put, List.setIfInBounds_toArray, List.set_cons_zero, List.set_cons_succ, Nat.reduceAdd]
       have f9 := hf 9 (by decide) (by kernel_rfl)
       generalize vals 9 = v9 at *
       subst f9
       have f7 := hf 7 (by decide) (by kernel_rfl)
       generalize vals 7 = v7 at *
       subst f7
       clear hf
       go_wp2_with (fail)
       exact RQ.mk rfl ⟨(by first | rfl | (simp [FS62_4_38]; done) | (simp [FS62_4_38, *]; done) | (simp [FS62_4_38, gotV]; done) | (simp [FS62_4_38, gotV]; omega)), fun h => absurd h (by decide)⟩ (Below.refl _ _)
      | 11, _ =>
       injection ho with ho
       subst ho
       clear hl
       simp only [fillA, List.take, List.drop, put_none, Act.put, List.setIfInBounds_toArray, List.set_cons_zero, List.set_cons_succ, Nat.reduceAdd]
       have f10 := hf 10 (by decide) (by kernel_rfl)
       generalize vals 10 = v10 at *
       subst f10
       clear hf
       go_wp2_with (fail)
       exact RQ.mk rfl ⟨(by first | rfl | (simp [FS62_4_38]; done) | (simp [FS62_4_38, *]; done) | (simp [FS62_4_38, gotV]; done) | (simp [FS62_4_38, gotV]; omega)), fun h => absurd h (by decide)⟩ (Below.refl _ _)
      | 12, _ =>
       injection ho with ho
       subst ho
       clear hl
       simp only [fillA, List.take, List.drop, put_none, Act.put, List.setIfInBounds_toArray, List.set_cons_zero, List.set_cons_succ, Nat.reduceAdd]
       have f10 := hf 10 (by decide) (by kernel_rfl)
       generalize vals 10 = v10 at *
       subst f10
       clear hf
       go_wp2_with (fail)
       exact RQ.mk rfl ⟨(by first | rfl | (simp [FS62_4_38]; done) | (simp [FS62_4_38, *]; done) | (simp [FS62_4_38, gotV]; done) | (simp [FS62_4_38, gotV]; omega)), fun h => absurd h (by decide)⟩ (Below.refl _ _)
      | 13, _ =>
       injection ho with ho
       subst ho
       clear hl
       simp only [fillA, List.take, List.drop, put_none, Act.put, List.setIfInBounds_toArray, List.set_cons_zero, List.set_cons_succ, Nat.reduceAdd]
       have f12 := hf 12 (by decide) (by kernel_rfl)
       generalize vals 12 = v12 at *
       subst f12
       have f10 := hf 10 (by decide) (by kernel_rfl)
       generalize vals 10 = v10 at *
       subst f10
       clear hf
       go_wp2_with (fail)
       exact RQ.mk rfl ⟨(by first | rfl | (simp [FS62_4_38]; done) | (simp [FS62_4_38, *]; done) | (simp [FS62_4_38, gotV]; done) | (simp [FS62_4_38, gotV]; omega)), fun h => absurd h (by decide)⟩ (Below.refl _ _)
      | 14, _ =>
       injection ho with ho
       subst ho
       clear hl
       simp only [fillA, List.take, List.drop, put_none, Act.put, List.setIfInBounds_toArray, List.set_cons_zero, List.set_cons_succ, Nat.reduceAdd]
       have f11 := hf 11 (by decide) (by kernel_rfl)
       generalize vals 11 = v11 at *
       subst f11
       have f13 := hf 13 (by decide) (by kernel_rfl)
       generalize vals 13 = v13 at *
       subst f13
       have f10 := hf 10 (by decide) (by kernel_rfl)
       generalize vals 10 = v10 at *
       subst f10
       clear hf
       go_wp2_with (fail)
       exact RQ.mk rfl ⟨(by first | rfl | (simp [FS62_4_38]; done) | (simp [FS62_4_38, *]; done) | (simp [FS62_4_38, gotV]; done) | (simp [FS62_4_38, gotV]; omega)), fun h => absurd h (by decide)⟩ (Below.refl _ _)
      | 15, _ =>
       injection ho with ho
       subst ho
       clear hl
       simp only [fillA, List.take, List.drop, put_none, Act.put, List.setIfInBounds_toArray, List.set_cons_zero, List.set_cons_succ, Nat.reduceAdd]
       have f14 := hf 14 (by decide) (by kernel_rfl)
       generalize vals 14 = v14 at *
       subst f14
       have f10 := hf 10 (by decide) (by kernel_rfl)
       generalize vals 10 = v10 at *
       subst f10
       clear hf
       have hc1 := cellOf hb1
       have hf1 := frozOf hb1
       have hz1 := sizeOf hb1
       try simp at hz1
       go_wp2_with (fail)
       exact RQ.mk rfl ⟨(by first | rfl | (simp [FS62_4_38]; done) | (simp [FS62_4_38, *]; done) | (simp [FS62_4_38, gotV]; done) | (simp [FS62_4_38, gotV]; omega)), fun h => absurd h (by decide)⟩ (Below.refl _ _)
      | 16, _ =>
       injection ho with ho
       subst ho
       clear hl
       simp only [fillA, List.take, List.drop, put_none, Act.put, List.setIfInBounds_toArray, List.set_cons_zero, List.set_cons_succ, Nat.reduceAdd]
       have f10 := hf 10 (by decide) (by kernel_rfl)
       generalize vals 10 = v10 at *
       subst f10
       clear hf
       go_wp2_with (fail)
       exact RQ.mk rfl ⟨(by first | rfl | (simp [FS62_4_38]; done) | (simp [FS62_4_38, *]; done) | (simp [FS62_4_38, gotV]; done) | (simp [FS62_4_38, gotV]; omega)), fun h => absurd h (by decide)⟩ (Below.refl _ _)
      | 17, _ =>
       injection ho with ho
       subst ho
       clear hl
       simp only [fillA, List.take, List.drop, put_none, Act.put, List.setIfInBounds_toArray, List.set_cons_zero, List.set_cons_succ, Nat.reduceAdd]
       have f16 := hf 16 (by decide) (by kernel_rfl)
       generalize vals 16 = v16 at *
       subst f16
       have f10 := hf 10 (by decide) (by kernel_rfl)
       generalize vals 10 = v10 at *
       subst f10
       clear hf
       have hc1 := cellOf hb1
       have hf1 := frozOf hb1
       have hz1 := sizeOf hb1
       try simp at hz1
       go_wp2_with (fail)
       exact RQ.mk rfl ⟨(by first | rfl | (simp [FS62_4_38]; done) | (simp [FS62_4_38, *]; done) | (simp [FS62_4_38, gotV]; done) | (simp [FS62_4_38, gotV]; omega)), fun h => absurd h (by decide)⟩ (Below.refl _ _)
      | 18, _ =>
       injection ho with ho
       subst ho
       clear hl
       simp only [fillA, List.take, List.drop, put_none, Act.put, List.setIfInBounds_toArray, List.set_cons_zero, List.set_cons_succ, Nat.reduceAdd]
       have f15 := hf 15 (by decide) (by kernel_rfl)
       generalize vals 15 = v15 at *
       subst f15
       have f17 := hf 17 (by decide) (by kernel_rfl)
       generalize vals 17 = v17 at *
       subst f17
       have f10 := hf 10 (by decide) (by kernel_rfl)
       generalize vals 10 = v10 at *
       subst f10
       clear hf
       go_wp2_with (fail)
       exact RQ.mk rfl ⟨(by first | rfl | (simp [FS62_4_38]; done) | (simp [FS62_4_38, *]; done) | (simp [FS62_4_38, gotV]; done) | (simp [FS62_4_38, gotV]; omega)), fun h => absurd h (by decide)⟩ (Below.refl _ _)
      | 19, _ =>
       injection ho with ho
       subst ho
       clear hl
       simp only [fillA, List.take, List.drop, put_none, Act.put, List.setIfInBounds_toArray, List.set_cons_zero, List.set_cons_succ, Nat.reduceAdd]
       have f10 := hf 10 (by decide) (by kernel_rfl)
       generalize vals 10 = v10 at *
       subst f10
       clear hf
       go_wp2_with (fail)
       exact RQ.mk rfl ⟨(by first | rfl | (simp [FS62_4_38]; done) | (simp [FS62_4_38, *]; done) | (simp [FS62_4_38, gotV]; done) | (simp [FS62_4_38, gotV]; omega)), fun h => absurd h (by decide)⟩ (Below.refl _ _)
      | 20, _ =>
       injection ho with ho
       subst ho
       clear hl
       simp only [fillA, List.take, List.drop, put_none, Act.put, List.setIfInBounds_toArray, List.set_cons_zero, List.set_cons_succ, Nat.reduceAdd]
       have f10 := hf 10 (by decide) (by kernel_rfl)
       generalize vals 10 = v10 at *
       subst f10
       clear hf
       go_wp2_with (fail)
       exact RQ.mk rfl ⟨(by first | rfl | (simp [FS62_4_38]; done) | (simp [FS62_4_38, *]; done) | (simp [FS62_4_38, gotV]; done) | (simp [FS62_4_38, gotV]; omega)), fun h => absurd h (by decide)⟩ (Below.refl _ _)
      | 21, _ =>
       injection ho with ho
       subst ho
       clear hl
       simp only [fillA, List.take, List.drop, put_none, Act.put, List.setIfInBounds_toArray, List.set_cons_zero, List.set_cons_succ, Nat.reduceAdd]
       have f19 := hf 19 (by decide) (by kernel_rfl)
       generalize vals 19 = v19 at *
       subst f19
       have f20 := hf 20 (by decide) (by kernel_rfl)
       generalize vals 20 = v20 at *
       subst f20
       have f10 := hf 10 (by decide) (by kernel_rfl)
       generalize vals 10 = v10 at *
       subst f10
       clear hf
       go_wp2_with (fail)
       exact RQ.mk rfl ⟨(by first | rfl | (simp [FS62_4_38]; done) | (simp [FS62_4_38, *]; done) | (simp [FS62_4_38, gotV]; done) | (simp [FS62_4_38, gotV]; omega)), fun h => absurd h (by decide)⟩ (Below.refl _ _)
      | 22, _ =>
       injection ho with ho
       subst ho
       clear hl
       simp only [fillA, List.take, List.drop, put_none, Act.put, List.setIfInBounds_toArray, List.set_cons_zero, List.set_cons_succ, Nat.reduceAdd]
       have f21 := hf 21 (by decide) (by kernel_rfl)
       generalize vals 21 = v21 at *
       subst f21
       have f10 := hf 10 (by decide) (by kernel_rfl)
       generalize vals 10 = v10 at *
       subst f10
       clear hf
       have hc1 := cellOf hb1
       have hf1 := frozOf hb1
       have hz1 := sizeOf hb1
       try simp at hz1
       go_wp2_with (fail)
       exact RQ.mk rfl ⟨(by first | rfl | (simp [FS62_4_38]; done) | (simp [FS62_4_38, *]; done) | (simp [FS62_4_38, gotV]; done) | (simp [FS62_4_38, gotV]; omega)), fun h => absurd h (by decide)⟩ (Below.refl _ _)
      | 23, _ =>
       injection ho with ho
       subst ho
       clear hl
       simp only [fillA, List.take, List.drop, put_none, Act.put, List.setIfInBounds_toArray, List.set_cons_zero, List.set_cons_succ, Nat.reduceAdd]
       have f18 := hf 18 (by decide) (by kernel_rfl)
       generalize vals 18 = v18 at *
       subst f18
       have f22 := hf 22 (by decide) (by kernel_rfl)
       generalize vals 22 = v22 at *
       subst f22
       have f10 := hf 10 (by decide) (by kernel_rfl)
       generalize vals 10 = v10 at *
       subst f10
       clear hf
       go_wp2_with (fail)
       exact RQ.mk rfl ⟨(by first | rfl | (simp [FS62_4_38]; done) | (simp [FS62_4_38, *]; done) | (simp [FS62_4_38, gotV]; done) | (simp [FS62_4_38, gotV]; omega)), fun h => absurd h (by decide)⟩ (Below.refl _ _)
      | 24, _ =>
       injection ho with ho
       subst ho
       clear hl
       simp only [fillA, List.take, List.drop, put_none, Act.put, List.setIfInBounds_toArray, List.set_cons_zero, List.set_cons_succ, Nat.reduceAdd]
       have f10 := hf 10 (by decide) (by kernel_rfl)
       generalize vals 10 = v10 at *
       subst f10
       have f23 := hf 23 (by decide) (by kernel_rfl)
       generalize vals 23 = v23 at *
       subst f23
       have f7 := hf 7 (by decide) (by kernel_rfl)
       generalize vals 7 = v7 at *
       subst f7
       clear hf
       go_wp2_with (fail)
       exact RQ.mk rfl ⟨(by first | rfl | (simp [FS62_4_38]; done) | (simp [FS62_4_38, *]; done) | (simp [FS62_4_38, gotV]; done) | (simp [FS62_4_38, gotV]; omega)), fun h => absurd h (by decide)⟩ (Below.refl _ _)
      | 25, _ =>
       injection ho with ho
       subst ho
       clear hl
       simp only [fillA, List.take, List.drop, put_none, Act.put, List.setIfInBounds_toArray, List.set_cons_zero, List.set_cons_succ, Nat.reduceAdd]
       have f7 := hf 7 (by decide) (by kernel_rfl)
       generalize vals 7 = v7 at *
       subst f7
       have f24 := hf 24 (by decide) (by kernel_rfl)
       generalize vals 24 = v24 at *
       subst f24
       clear hf
       go_wp2_with (fail)
       exact RQ.mk rfl ⟨(by first | rfl | (simp [FS62_4_38]; done) | (simp [FS62_4_38, *]; done) | (simp [FS62_4_38, gotV]; done) | (simp [FS62_4_38, gotV]; omega)), fun h => absurd h (by decide)⟩ (Below.refl _ _)
      | m + 26, h => exact absurd h (by omega)
     ·intro vals w1 hb1 hf hd
      simp only [fillA, List.take, List.drop, put_none, Act.put, List.setIfInBounds_toArray, List.set_cons_zero, List.set_cons_succ, Nat.reduceAdd]
      clear hd
      have f0 := hf 0 (by decide)
      generalize vals 0 = v0 at *
      subst f0
      have f1 := hf 1 (by decide)
      generalize vals 1 = v1 at *
      subst f1
      have f2 := hf 2 (by decide)
      generalize vals 2 = v2 at *
      subst f2
      have f3 := hf 3 (by decide)
      generalize vals 3 = v3 at *
      subst f3
      have f4 := hf 4 (by decide)
      generalize vals 4 = v4 at *
      subst f4
      have f5 := hf 5 (by decide)
      generalize vals 5 = v5 at *
      subst f5
      have f6 := hf 6 (by decide)
      generalize vals 6 = v6 at *
      subst f6
      have f7 := hf 7 (by decide)
      generalize vals 7 = v7 at *
      subst f7
      have f8 := hf 8 (by decide)
      generalize vals 8 = v8 at *
      subst f8
      have f9 := hf 9 (by decide)
      generalize vals 9 = v9 at *
      subst f9
      have f10 := hf 10 (by decide)
      generalize vals 10 = v10 at *
      subst f10
      have f11 := hf 11 (by decide)
      generalize vals 11 = v11 at *
      subst f11
      have f12 := hf 12 (by decide)
      generalize vals 12 = v12 at *
      subst f12
      have f13 := hf 13 (by decide)
      generalize vals 13 = v13 at *
      subst f13
      have f14 := hf 14 (by decide)
      generalize vals 14 = v14 at *
      subst f14
      have f15 := hf 15 (by decide)
      generalize vals 15 = v15 at *
      subst f15
      have f16 := hf 16 (by decide)
      generalize vals 16 = v16 at *
      subst f16
      have f17 := hf 17 (by decide)
      generalize vals 17 = v17 at *
      subst f17
      have f18 := hf 18 (by decide)
      generalize vals 18 = v18 at *
      subst f18
      have f19 := hf 19 (by decide)
      generalize vals 19 = v19 at *
      subst f19
      have f20 := hf 20 (by decide)
      generalize vals 20 = v20 at *
      subst f20
      have f21 := hf 21 (by decide)
      generalize vals 21 = v21 at *
      subst f21
      have f22 := hf 22 (by decide)
      generalize vals 22 = v22 at *
      subst f22
      have f23 := hf 23 (by decide)
      generalize vals 23 = v23 at *
      subst f23
      have f24 := hf 24 (by decide)
      generalize vals 24 = v24 at *
      subst f24
      have f25 := hf 25 (by decide)
      generalize vals 25 = v25 at *
      subst f25
      clear hf
      have hc1 := cellOf hb1
      have hf1 := frozOf hb1
      have hz1 := sizeOf hb1
      try simp at hz1
      go_wp2_with (fail)
      go_roundw
      case rel =>
       refine ⟨k + 2, by omega, by go_num, fun j hj => ?_, ?_, ?_, ?_, by (repeat' (first | exact Below.refl _ _ | assumption | refine Below.setCell ?_ ?_ _ | refine Below.drew ?_ | refine Below.alloc ?_ ?_ _ | refine Below.trans ?_ (Below.mono (by assumption) ?_) | (simp; done) | (simp; omega) | omega))⟩
       ·rcases Nat.lt_or_ge j (k + 1) with h | h
        ·exact HL.out j h
        ·obtain rfl : j = k + 1 := by omega
         rw [HV.out, HG.out, H2.out]; rfl
       all_goals first | (simp [go_sem, ↓IntWalk.iteOmega, *]; done) | (simp [go_sem, ↓IntWalk.iteOmega, *]; omega) | omega
      case measure => simp [intOf]; omega
  ·obtain rfl : k = pl.length := by omega
   have hops := opsB_all hl
   have HV := hid ((planB_eq (p := p) hs0 hops).trans (servB_all rs pl p))
   have hfb := fun m => firstO_bd hops m
   clear hl hp0 hp1 hp0' hp1' hx hok
   go_wp2_with (fail)
   go_loopw [10] (fun i wv => ∃ q : Nat, q ≤ rs.length ∧ i = .int .i64 q ∧ (rs.take q).all (servP pl p) = true ∧ Below w.heap.size w wv) (fun i _ => rs.length - (intOf i).toNat)
   case atStart => exact ⟨0, Nat.zero_le _, rfl, rfl, by (repeat' (first | exact Below.refl _ _ | assumption | refine Below.setCell ?_ ?_ _ | refine Below.drew ?_ | refine Below.alloc ?_ ?_ _ | refine Below.trans ?_ (Below.mono (by assumption) ?_) | (simp; done) | (simp; omega) | omega))⟩
   case round =>
    obtain ⟨q, hq1, rfl, han, hbv⟩ := hrel
    clear hc hf hz
    have hc := cellOf hbv
    have hf := frozOf hbv
    have hz := sizeOf hbv
    have HA := hid han
    clear han
    by_cases hlt : q < rs.length
    ·obtain ⟨bx, ox, rfl, hbx, hcx⟩ := hr q rs[q] (List.getElem?_eq_getElem hlt)
     have hx0 := hcx 0 _ rfl
     simp only [Nat.add_zero, Nat.mul_one] at hx0
     have hmb := hrm q hlt
     unfold minP at hmb
     have HS := hid (all_snoc (servP pl p) rs q hlt)
     have HM := hid (fun e => HV.out.trans (all_miss (p := servP pl p) hlt e))
     clear hcx hr hrm
     obtain ⟨m, hmk⟩ : ∃ m, m = rs[q] := ⟨_, rfl⟩
     simp only [← hmk] at hx0 hmb HS HM
     clear hmk
     have hfm := hfb m
     clear hfb
     have HY := hid (fun h1 h2 => servP_yes (pl := pl) (p := p) (m := m) h1 h2)
     have HN1 := hid (fun h1 => servP_no1 (pl := pl) (p := p) (m := m) h1)
     have HN2 := hid (fun h1 => servP_no2 (pl := pl) (p := p) (m := m) h1)
     by_cases h1 : firstO pl m < 0
     ·have HE := hid (HM.out (HN1.out h1))
      clear HY HN1 HN2
      go_wp2_with (first | (go_at_call 67; refine (c_spec_l15First _ _ _ _ _ _ (by first | assumption | exact Rds.below hq (by (repeat' (first | exact Below.refl _ _ | assumption | refine Below.setCell ?_ ?_ _ | refine Below.drew ?_ | refine Below.alloc ?_ ?_ _ | refine Below.trans ?_ (Below.mono (by assumption) ?_) | (simp; done) | (simp; omega) | omega)))) rfl (by omega)).mono ?_; rintro e w' ⟨rfl, hb⟩; have hc := cellOf hb; have hf := frozOf hb; have hz := sizeOf hb; try simp at hz))
      all_goals go_ret
      all_goals exact ⟨ret_bool (by rw [HE.out]), by (repeat' (first | exact Below.refl _ _ | assumption | refine Below.setCell ?_ ?_ _ | refine Below.drew ?_ | refine Below.alloc ?_ ?_ _ | refine Below.trans ?_ (Below.mono (by assumption) ?_) | (simp; done) | (simp; omega) | omega))⟩
     by_cases h2 : m + p < firstO pl m
     ·have HE := hid (HM.out (HN2.out h2))
      clear HY HN1 HN2
      go_wp2_with (first | (go_at_call 67; refine (c_spec_l15First _ _ _ _ _ _ (by first | assumption | exact Rds.below hq (by (repeat' (first | exact Below.refl _ _ | assumption | refine Below.setCell ?_ ?_ _ | refine Below.drew ?_ | refine Below.alloc ?_ ?_ _ | refine Below.trans ?_ (Below.mono (by assumption) ?_) | (simp; done) | (simp; omega) | omega)))) rfl (by omega)).mono ?_; rintro e w' ⟨rfl, hb⟩; have hc := cellOf hb; have hf := frozOf hb; have hz := sizeOf hb; try simp at hz))
      all_goals go_ret
      all_goals exact ⟨ret_bool (by rw [HE.out]), by (repeat' (first | exact Below.refl _ _ | assumption | refine Below.setCell ?_ ?_ _ | refine Below.drew ?_ | refine Below.alloc ?_ ?_ _ | refine Below.trans ?_ (Below.mono (by assumption) ?_) | (simp; done) | (simp; omega) | omega))⟩
     ·have HE := hid (HY.out (by omega) (by omega))
      clear HY HN1 HN2
      go_wp2_with (first | (go_at_call 67; refine (c_spec_l15First _ _ _ _ _ _ (by first | assumption | exact Rds.below hq (by (repeat' (first | exact Below.refl _ _ | assumption | refine Below.setCell ?_ ?_ _ | refine Below.drew ?_ | refine Below.alloc ?_ ?_ _ | refine Below.trans ?_ (Below.mono (by assumption) ?_) | (simp; done) | (simp; omega) | omega)))) rfl (by omega)).mono ?_; rintro e w' ⟨rfl, hb⟩; have hc := cellOf hb; have hf := frozOf hb; have hz := sizeOf hb; try simp at hz))
      go_roundw
      case rel => exact ⟨q + 1, by omega, by go_num, by rw [HS.out, HA.out, HE.out]; rfl, by (repeat' (first | exact Below.refl _ _ | assumption | refine Below.setCell ?_ ?_ _ | refine Below.drew ?_ | refine Below.alloc ?_ ?_ _ | refine Below.trans ?_ (Below.mono (by assumption) ?_) | (simp; done) | (simp; omega) | omega))⟩
      case measure => simp [intOf]; omega
    ·obtain rfl : q = rs.length := by omega
     have HE := HA.out
     rw [List.take_length] at HE
     go_wp2_with (fail)
     go_ret
     exact ⟨ret_bool (by rw [HV.out, HE]), by (repeat' (first | exact Below.refl _ _ | assumption | refine Below.setCell ?_ ?_ _ | refine Below.drew ?_ | refine Below.alloc ?_ ?_ _ | refine Below.trans ?_ (Below.mono (by assumption) ?_) | (simp; done) | (simp; omega) | omega))⟩

end Go.Proofs.Yteciijnpfapmhaa
namespace Go.Proofs.Yteciijnpfapmhaa
set_option linter.unusedSimpArgs false
set_option linter.unusedVariables false
open Go.RowKit

set_option maxHeartbeats 400000 in
theorem c_spec_IsBridgePlan (d : Int) (A : Option Addr) (xs : List (Int × Int)) (cap : Nat) (B : Option Addr) (rs : List Int) (capr : Nat) (p : Int) (C : Option Addr) (pl : List Int) (capp : Nat) (w : World) (hx : Rds cIv 2 w A xs) (hn : xs.length ≤ 9223372036854775807) (hr : Rds cIn 1 w B rs) (hnr : rs.length ≤ 9223372036854775807) (hq : Rds cIn 1 w C pl) (hnp : pl.length ≤ 9223372036854775807) :
  Calls Try.prog 25 #[.agg #[.int .i64 d, .slice A xs.length cap], .slice B rs.length capr, .int .i64 p, .slice C pl.length capp] w fun e w' => e = .returned (.bool (planB d xs rs p pl)) ∧ Below w.heap.size w w' := by
 by_cases hs0 : reqB d xs rs p = true
 rotate_left
 ·have hn : reqB d xs rs p = false := Bool.eq_false_iff.2 hs0
  clear hs0
  have hn2 := planB_no1 (pl := pl) hn
  go_enter Try.func25, Try.ntmps25
  go_wp2_with (first | (go_at_call 61; refine (c_spec_l15Requests _ _ _ _ _ _ _ _ _ (by first | assumption | exact Rds.below hx (by (repeat' (first | exact Below.refl _ _ | assumption | refine Below.setCell ?_ ?_ _ | refine Below.drew ?_ | refine Below.alloc ?_ ?_ _ | refine Below.trans ?_ (Below.mono (by assumption) ?_) | (simp; done) | (simp; omega) | omega)))) (by omega) (by first | assumption | exact Rds.below hr (by (repeat' (first | exact Below.refl _ _ | assumption | refine Below.setCell ?_ ?_ _ | refine Below.drew ?_ | refine Below.alloc ?_ ?_ _ | refine Below.trans ?_ (Below.mono (by assumption) ?_) | (simp; done) | (simp; omega) | omega)))) (by omega)).mono ?_; rintro e w' ⟨rfl, hb⟩; have hc := cellOf hb; have hf := frozOf hb; have hz := sizeOf hb; try simp at hz) | (go_at_call 62; refine (c_spec_l15Plan _ _ _ _ _ _ _ _ _ _ _ _ (by first | assumption | exact Rds.below hx (by (repeat' (first | exact Below.refl _ _ | assumption | refine Below.setCell ?_ ?_ _ | refine Below.drew ?_ | refine Below.alloc ?_ ?_ _ | refine Below.trans ?_ (Below.mono (by assumption) ?_) | (simp; done) | (simp; omega) | omega)))) (by omega) (by first | assumption | exact Rds.below hr (by (repeat' (first | exact Below.refl _ _ | assumption | refine Below.setCell ?_ ?_ _ | refine Below.drew ?_ | refine Below.alloc ?_ ?_ _ | refine Below.trans ?_ (Below.mono (by assumption) ?_) | (simp; done) | (simp; omega) | omega)))) (by omega) (by first | assumption | exact Rds.below hq (by (repeat' (first | exact Below.refl _ _ | assumption | refine Below.setCell ?_ ?_ _ | refine Below.drew ?_ | refine Below.alloc ?_ ?_ _ | refine Below.trans ?_ (Below.mono (by assumption) ?_) | (simp; done) | (simp; omega) | omega)))) (by omega) hs0).mono ?_; rintro e w' ⟨rfl, hb⟩; have hc := cellOf hb; have hf := frozOf hb; have hz := sizeOf hb; try simp at hz))
  all_goals go_ret
  all_goals
   refine ⟨ret_bool ?_, ?_⟩
   ·first | rfl | omega | (simp [hn, hn2]; done) | (simp [hn, hn2]; omega) | (simp [hn, hn2]; (repeat' split) <;> (first | omega | (simp; done) | (simp; omega))) | (simp_all []; done) | (simp_all []; omega)
   ·(repeat' (first | exact Below.refl _ _ | assumption | refine Below.setCell ?_ ?_ _ | refine Below.drew ?_ | refine Below.alloc ?_ ?_ _ | refine Below.trans ?_ (Below.mono (by assumption) ?_) | (simp; done) | (simp; omega) | omega))
 go_enter Try.func25, Try.ntmps25
 go_wp2_with (first | (go_at_call 61; refine (c_spec_l15Requests _ _ _ _ _ _ _ _ _ (by first | assumption | exact Rds.below hx (by (repeat' (first | exact Below.refl _ _ | assumption | refine Below.setCell ?_ ?_ _ | refine Below.drew ?_ | refine Below.alloc ?_ ?_ _ | refine Below.trans ?_ (Below.mono (by assumption) ?_) | (simp; done) | (simp; omega) | omega)))) (by omega) (by first | assumption | exact Rds.below hr (by (repeat' (first | exact Below.refl _ _ | assumption | refine Below.setCell ?_ ?_ _ | refine Below.drew ?_ | refine Below.alloc ?_ ?_ _ | refine Below.trans ?_ (Below.mono (by assumption) ?_) | (simp; done) | (simp; omega) | omega)))) (by omega)).mono ?_; rintro e w' ⟨rfl, hb⟩; have hc := cellOf hb; have hf := frozOf hb; have hz := sizeOf hb; try simp at hz) | (go_at_call 62; refine (c_spec_l15Plan _ _ _ _ _ _ _ _ _ _ _ _ (by first | assumption | exact Rds.below hx (by (repeat' (first | exact Below.refl _ _ | assumption | refine Below.setCell ?_ ?_ _ | refine Below.drew ?_ | refine Below.alloc ?_ ?_ _ | refine Below.trans ?_ (Below.mono (by assumption) ?_) | (simp; done) | (simp; omega) | omega)))) (by omega) (by first | assumption | exact Rds.below hr (by (repeat' (first | exact Below.refl _ _ | assumption | refine Below.setCell ?_ ?_ _ | refine Below.drew ?_ | refine Below.alloc ?_ ?_ _ | refine Below.trans ?_ (Below.mono (by assumption) ?_) | (simp; done) | (simp; omega) | omega)))) (by omega) (by first | assumption | exact Rds.below hq (by (repeat' (first | exact Below.refl _ _ | assumption | refine Below.setCell ?_ ?_ _ | refine Below.drew ?_ | refine Below.alloc ?_ ?_ _ | refine Below.trans ?_ (Below.mono (by assumption) ?_) | (simp; done) | (simp; omega) | omega)))) (by omega) hs0).mono ?_; rintro e w' ⟨rfl, hb⟩; have hc := cellOf hb; have hf := frozOf hb; have hz := sizeOf hb; try simp at hz))
 all_goals go_ret
 all_goals
  refine ⟨ret_bool ?_, ?_⟩
  ·first | rfl | omega | (simp [hs0]; done) | (simp [hs0]; omega) | (simp [hs0]; (repeat' split) <;> (first | omega | (simp; done) | (simp; omega))) | (simp_all []; done) | (simp_all []; omega)
  ·(repeat' (first | exact Below.refl _ _ | assumption | refine Below.setCell ?_ ?_ _ | refine Below.drew ?_ | refine Below.alloc ?_ ?_ _ | refine Below.trans ?_ (Below.mono (by assumption) ?_) | (simp; done) | (simp; omega) | omega))

end Go.Proofs.Yteciijnpfapmhaa
